/- The texts J7, J11, J13, J14, J31, FlowQ, one behind the other. -/
import Derived.Test.YtbegohehjkjnmaaGreatDoorJZ8
import Derived.Test.YtbegohehjkjnmaaGreatDoorJZ19
import Derived.Test.YtbegohehjkjnmaaGreatDoorJZ20
import Derived.Test.YtbegohehjkjnmaaGreatDoorJZ21
import Derived.Test.YtbegohehjkjnmaaGreatDoorJZ28
import Derived.Test.YtbegohehjkjnmaaGreatDoorJZ30
import Derived.Test.YtbegohehjkjnmaaGreatDoorJZ31
import Derived.Test.YtbegohehjkjnmaaGreatDoorRows
import Derived.ProofKit
namespace Go.Proofs.YtbegohehjkjnmaaGreatDoor.Flow
open Go

section
variable {c0 c1 c2 c3 c4 c5 c6 c7 : D} {q z : Int}
abbrev pObj (c0 c1 c2 c3 c4 c5 c6 c7 : D) (q z : Int) : Ow := [(2, .var [c0, c1, c2, c3, c4, c5, c6, c7]), (3, .var [.i .i64 q]), (4, .var [.i .i64 z])]

set_option maxRecDepth 100000 in
set_option maxHeartbeats 1000000 in
theorem told_ctr (p : Nat) (e : Int) : CtrD Tryz.prog 19 [.pv 2 0, .pv 3 0, .pv 4 0] (pObj c0 c1 c2 c3 c4 c5 c6 c7 q z) (.panicking (pchain (pvS p e)))
    [(2, .var j0C), (3, .var [.i .i64 p]), (4, .var [.i .i64 e])] (.panicking [{ v := pvS p e, recovered := true }]) := by
  refine CtrD.of_TS Tryz.func19 rfl Tryz.ntmps19 Tryz.results19 (by decide) rfl rfl rfl fun X c₀ cs hL hX hdf hu => ?_
  refine ts_recover ({ c₀ with mode := .panicking [{ v := pvS p e, recovered := true }] } :: cs) (pvS p e) rfl (by
    have h0 : recoverD (c₀ :: cs) = some (pvS p e, { c₀ with mode := .panicking [{ v := pvS p e, recovered := true }] } :: cs) := by
      simp only [recoverD, hu, pchain]
    rw [h0]
    exact ⟨rfl, rfl⟩) rfl ?_
  repeat' (first | refine r_assert2 Tryz.underlying45 rfl rfl ?_ | refine r_varAt 60 rfl rfl rfl rfl rfl ?_ | with_reducible (first | refine t_seq ?_ | refine t_region ?_ | refine c_nil ?_ | refine n_then ?_ | refine t_ret ?_ | refine t_skip ?_ | refine t_exit ?_ | refine t_block ?_ | refine n_block ?_ | refine e_then ?_ | refine x_then ?_ | refine x_block ?_ | refine t_draw ?_) | refine r_val rfl rfl True.intro ?_ | refine r_gskip rfl rfl rfl ?_ | refine r_gskip2 rfl rfl rfl ?_ | refine r_gval rfl rfl rfl rfl True.intro ?_ | refine t_true rfl ?_ | refine t_false rfl ?_ | ((first | refine t_cond_d rfl ?_ ?_ | refine t_cond_i rfl ?_ ?_ | refine t_cond_j rfl ?_ ?_ | refine t_cond_s rfl ?_ ?_ | refine t_cond_n rfl ?_ ?_ | refine t_cond rfl ?_ ?_ | refine c_split_d rfl rfl ?_ ?_ | refine c_split_i rfl rfl ?_ ?_ | refine c_split_j rfl rfl ?_ ?_ | refine c_split_s rfl rfl ?_ ?_ | refine c_split_n rfl rfl ?_ ?_) <;> intro <;> try (first | (rename_i hz; exact Bool.noConfusion (show true = false from hz)) | (rename_i hz; exact Bool.noConfusion (show false = true from hz)) | (exfalso; omega))) | ((first | refine r_val rfl rfl ?_ ?_ | refine r_gval rfl rfl rfl rfl ?_ ?_ | refine r_obj rfl rfl ?_ ?_ | refine r_sto rfl ?_ ?_ | refine r_gobj rfl rfl rfl rfl ?_ ?_); focus (first | omega | exact Nat.le_of_ble_eq_true rfl | ((repeat first | rw [wrap_u8] | rw [IntKind.wrap_i64] | rw [IntKind.wrap_i32] | rw [wrap_u32'] | rw [wrap_u64']); (repeat' refine And.intro ?_ ?_) <;> omega) | ((repeat' refine And.intro ?_ ?_) <;> first | omega | rfl | exact Nat.le_refl _ | exact Nat.le_of_ble_eq_true rfl | exact bytesF_one _) | (simp_all; done) | (simp_all; omega))) | refine e_hit rfl ?_ | refine e_miss rfl ?_ | with_reducible refine ⟨by kernel_rfl, ?_⟩ | ((with_reducible refine c_grd ?_); (fail_if_success (refine c_lit true rfl rfl rfl ?_)); (fail_if_success (refine c_lit false rfl rfl rfl ?_)); refine c_split rfl rfl (fun _ => ?_) (fun _ => ?_)))
  refine td_seq2 ?_
  repeat' (first | refine td_last ?_ | with_reducible (first | refine t_seq ?_ | refine t_region ?_ | refine c_nil ?_ | refine n_then ?_ | refine t_ret ?_ | refine t_skip ?_ | refine t_exit ?_ | refine t_block ?_ | refine n_block ?_ | refine e_then ?_ | refine x_then ?_ | refine x_block ?_ | refine t_draw ?_) | refine r_val rfl rfl True.intro ?_ | refine r_gskip rfl rfl rfl ?_ | refine r_gskip2 rfl rfl rfl ?_ | refine r_gval rfl rfl rfl rfl True.intro ?_ | refine t_true rfl ?_ | refine t_false rfl ?_ | ((first | refine t_cond_d rfl ?_ ?_ | refine t_cond_i rfl ?_ ?_ | refine t_cond_j rfl ?_ ?_ | refine t_cond_s rfl ?_ ?_ | refine t_cond_n rfl ?_ ?_ | refine t_cond rfl ?_ ?_ | refine c_split_d rfl rfl ?_ ?_ | refine c_split_i rfl rfl ?_ ?_ | refine c_split_j rfl rfl ?_ ?_ | refine c_split_s rfl rfl ?_ ?_ | refine c_split_n rfl rfl ?_ ?_) <;> intro <;> try (first | (rename_i hz; exact Bool.noConfusion (show true = false from hz)) | (rename_i hz; exact Bool.noConfusion (show false = true from hz)) | (exfalso; omega))) | ((first | refine r_val rfl rfl ?_ ?_ | refine r_gval rfl rfl rfl rfl ?_ ?_ | refine r_obj rfl rfl ?_ ?_ | refine r_sto rfl ?_ ?_ | refine r_gobj rfl rfl rfl rfl ?_ ?_); focus (first | omega | exact Nat.le_of_ble_eq_true rfl | ((repeat first | rw [wrap_u8] | rw [IntKind.wrap_i64] | rw [IntKind.wrap_i32] | rw [wrap_u32'] | rw [wrap_u64']); (repeat' refine And.intro ?_ ?_) <;> omega) | ((repeat' refine And.intro ?_ ?_) <;> first | omega | rfl | exact Nat.le_refl _ | exact Nat.le_of_ble_eq_true rfl | exact bytesF_one _) | (simp_all; done) | (simp_all; omega))) | refine e_hit rfl ?_ | refine e_miss rfl ?_ | with_reducible refine ⟨by kernel_rfl, ?_⟩ | refine n_raw ⟨?_⟩ | refine x_raw ⟨?_⟩ | ((with_reducible refine c_grd ?_); (fail_if_success (refine c_lit true rfl rfl rfl ?_)); (fail_if_success (refine c_lit false rfl rfl rfl ?_)); refine c_split rfl rfl (fun _ => ?_) (fun _ => ?_)))
  all_goals exact fun a w hr => ⟨.inl rfl, rfl, _, _, hr, rfl, rfl, rfl, trivial⟩

set_option maxRecDepth 100000 in
set_option maxHeartbeats 1000000 in
theorem told0_ctr (k : Int) (y n : Bool) (d : List UInt8) (e : Int) (t : List UInt8) (l : List J) (ks : List (List UInt8)) : CtrD Tryz.prog 19 [.pv 2 0, .pv 3 0, .pv 4 0] (pObj (.i .i64 k) (.b y) (.b n) (.s d) (.i .i64 e) (.s t) (.sl 8 l.length (jF l)) (.sl 1 ks.length (txF ks)) q z) .returning (pObj (.i .i64 k) (.b y) (.b n) (.s d) (.i .i64 e) (.s t) (.sl 8 l.length (jF l)) (.sl 1 ks.length (txF ks)) q z) .returning := by
  refine CtrD.of_TS Tryz.func19 rfl Tryz.ntmps19 Tryz.results19 (by decide) rfl rfl rfl fun X c₀ cs hL hX hdf hu => ?_
  refine ts_recover (c₀ :: cs) .nilIface rfl (by
    have h0 : recoverD (c₀ :: cs) = none := by
      simp only [recoverD, hu]
    rw [h0]
    exact ⟨rfl, rfl⟩) rfl ?_
  repeat' (first | refine r_assert0 Tryz.underlying45 rfl rfl rfl ?_ | refine r_varAt 60 rfl rfl rfl rfl rfl ?_ | with_reducible (first | refine t_seq ?_ | refine t_region ?_ | refine c_nil ?_ | refine n_then ?_ | refine t_ret ?_ | refine t_skip ?_ | refine t_exit ?_ | refine t_block ?_ | refine n_block ?_ | refine e_then ?_ | refine x_then ?_ | refine x_block ?_ | refine t_draw ?_) | refine r_val rfl rfl True.intro ?_ | refine r_gskip rfl rfl rfl ?_ | refine r_gskip2 rfl rfl rfl ?_ | refine r_gval rfl rfl rfl rfl True.intro ?_ | refine t_true rfl ?_ | refine t_false rfl ?_ | ((first | refine t_cond_d rfl ?_ ?_ | refine t_cond_i rfl ?_ ?_ | refine t_cond_j rfl ?_ ?_ | refine t_cond_s rfl ?_ ?_ | refine t_cond_n rfl ?_ ?_ | refine t_cond rfl ?_ ?_ | refine c_split_d rfl rfl ?_ ?_ | refine c_split_i rfl rfl ?_ ?_ | refine c_split_j rfl rfl ?_ ?_ | refine c_split_s rfl rfl ?_ ?_ | refine c_split_n rfl rfl ?_ ?_) <;> intro <;> try (first | (rename_i hz; exact Bool.noConfusion (show true = false from hz)) | (rename_i hz; exact Bool.noConfusion (show false = true from hz)) | (exfalso; omega))) | ((first | refine r_val rfl rfl ?_ ?_ | refine r_gval rfl rfl rfl rfl ?_ ?_ | refine r_obj rfl rfl ?_ ?_ | refine r_sto rfl ?_ ?_ | refine r_gobj rfl rfl rfl rfl ?_ ?_); focus (first | omega | exact Nat.le_of_ble_eq_true rfl | ((repeat first | rw [wrap_u8] | rw [IntKind.wrap_i64] | rw [IntKind.wrap_i32] | rw [wrap_u32'] | rw [wrap_u64']); (repeat' refine And.intro ?_ ?_) <;> omega) | ((repeat' refine And.intro ?_ ?_) <;> first | omega | rfl | exact Nat.le_refl _ | exact Nat.le_of_ble_eq_true rfl | exact bytesF_one _) | (simp_all; done) | (simp_all; omega))) | refine e_hit rfl ?_ | refine e_miss rfl ?_ | with_reducible refine ⟨by kernel_rfl, ?_⟩ | ((with_reducible refine c_grd ?_); (fail_if_success (refine c_lit true rfl rfl rfl ?_)); (fail_if_success (refine c_lit false rfl rfl rfl ?_)); refine c_split rfl rfl (fun _ => ?_) (fun _ => ?_)))
  refine td_seq2 ?_
  repeat' (first | refine td_last ?_ | with_reducible (first | refine t_seq ?_ | refine t_region ?_ | refine c_nil ?_ | refine n_then ?_ | refine t_ret ?_ | refine t_skip ?_ | refine t_exit ?_ | refine t_block ?_ | refine n_block ?_ | refine e_then ?_ | refine x_then ?_ | refine x_block ?_ | refine t_draw ?_) | refine r_val rfl rfl True.intro ?_ | refine r_gskip rfl rfl rfl ?_ | refine r_gskip2 rfl rfl rfl ?_ | refine r_gval rfl rfl rfl rfl True.intro ?_ | refine t_true rfl ?_ | refine t_false rfl ?_ | ((first | refine t_cond_d rfl ?_ ?_ | refine t_cond_i rfl ?_ ?_ | refine t_cond_j rfl ?_ ?_ | refine t_cond_s rfl ?_ ?_ | refine t_cond_n rfl ?_ ?_ | refine t_cond rfl ?_ ?_ | refine c_split_d rfl rfl ?_ ?_ | refine c_split_i rfl rfl ?_ ?_ | refine c_split_j rfl rfl ?_ ?_ | refine c_split_s rfl rfl ?_ ?_ | refine c_split_n rfl rfl ?_ ?_) <;> intro <;> try (first | (rename_i hz; exact Bool.noConfusion (show true = false from hz)) | (rename_i hz; exact Bool.noConfusion (show false = true from hz)) | (exfalso; omega))) | ((first | refine r_val rfl rfl ?_ ?_ | refine r_gval rfl rfl rfl rfl ?_ ?_ | refine r_obj rfl rfl ?_ ?_ | refine r_sto rfl ?_ ?_ | refine r_gobj rfl rfl rfl rfl ?_ ?_); focus (first | omega | exact Nat.le_of_ble_eq_true rfl | ((repeat first | rw [wrap_u8] | rw [IntKind.wrap_i64] | rw [IntKind.wrap_i32] | rw [wrap_u32'] | rw [wrap_u64']); (repeat' refine And.intro ?_ ?_) <;> omega) | ((repeat' refine And.intro ?_ ?_) <;> first | omega | rfl | exact Nat.le_refl _ | exact Nat.le_of_ble_eq_true rfl | exact bytesF_one _) | (simp_all; done) | (simp_all; omega))) | refine e_hit rfl ?_ | refine e_miss rfl ?_ | with_reducible refine ⟨by kernel_rfl, ?_⟩ | refine n_raw ⟨?_⟩ | refine x_raw ⟨?_⟩ | ((with_reducible refine c_grd ?_); (fail_if_success (refine c_lit true rfl rfl rfl ?_)); (fail_if_success (refine c_lit false rfl rfl rfl ?_)); refine c_split rfl rfl (fun _ => ?_) (fun _ => ?_)))
  all_goals exact fun a w hr => ⟨.inl rfl, by
    cases c₀
    cases hu
    rfl, _, _, hr, rfl, rfl, rfl, trivial⟩
end

def parD (r : J × Nat × Int) : D := .tu [.ag (jC r.1), .i .i64 r.2.1, .i .i64 r.2.2]
theorem par_weak0 (p e : Int) : Weak (.tu [.ag j0C, .i .i64 p, .i .i64 e]) (.tu [.ag (jC j0), .i .i64 p, .i .i64 e]) := .tu3 (lit_weak 0 false) (.refl _) (.refl _)
set_option maxRecDepth 100000 in
set_option maxHeartbeats 4000000 in
theorem parse_jctr (s : List UInt8) (hs : s.length ≤ 4194304) : Ctr Tryz.prog 10 [.s s] (parD (jparse s)) := by
  refine r_funD Tryz.func10 rfl Tryz.ntmps10 rfl fun X hL hX hdf hr0 => ?_
  have hfree : (parD (jparse s)).free = true := by
    unfold parD
    generalize jparse s = r
    obtain ⟨⟨k, y, n, d, e, t, l, ks⟩, p, c⟩ := r
    rw [jC_mk]
    rfl
  unfold jparse at *
  by_cases hb : 1048576 < s.length
  · rw [if_pos hb] at *
    repeat' (first | refine td_defer [2, 3, 4] hdf hr0 rfl rfl ?_ | refine td_seq2 ?_ | refine td_last ?_ | with_reducible (first | refine t_seq ?_ | refine t_region ?_ | refine c_nil ?_ | refine n_then ?_ | refine t_ret ?_ | refine t_skip ?_ | refine t_exit ?_ | refine t_block ?_ | refine n_block ?_ | refine e_then ?_ | refine x_then ?_ | refine x_block ?_ | refine t_draw ?_) | refine r_val rfl rfl True.intro ?_ | refine r_gskip rfl rfl rfl ?_ | refine r_gskip2 rfl rfl rfl ?_ | refine r_gval rfl rfl rfl rfl True.intro ?_ | refine t_true rfl ?_ | refine t_false rfl ?_ | ((first | refine t_cond_d rfl ?_ ?_ | refine t_cond_i rfl ?_ ?_ | refine t_cond_j rfl ?_ ?_ | refine t_cond_s rfl ?_ ?_ | refine t_cond_n rfl ?_ ?_ | refine t_cond rfl ?_ ?_ | refine c_split_d rfl rfl ?_ ?_ | refine c_split_i rfl rfl ?_ ?_ | refine c_split_j rfl rfl ?_ ?_ | refine c_split_s rfl rfl ?_ ?_ | refine c_split_n rfl rfl ?_ ?_) <;> intro <;> try (first | (rename_i hz; exact Bool.noConfusion (show true = false from hz)) | (rename_i hz; exact Bool.noConfusion (show false = true from hz)) | (exfalso; omega))) | ((first | refine r_val rfl rfl ?_ ?_ | refine r_gval rfl rfl rfl rfl ?_ ?_ | refine r_obj rfl rfl ?_ ?_ | refine r_sto rfl ?_ ?_ | refine r_gobj rfl rfl rfl rfl ?_ ?_); focus (first | omega | exact Nat.le_of_ble_eq_true rfl | ((repeat first | rw [wrap_u8] | rw [IntKind.wrap_i64] | rw [IntKind.wrap_i32] | rw [wrap_u32'] | rw [wrap_u64']); (repeat' refine And.intro ?_ ?_) <;> omega) | ((repeat' refine And.intro ?_ ?_) <;> first | omega | rfl | exact Nat.le_refl _ | exact Nat.le_of_ble_eq_true rfl | exact bytesF_one _) | (simp_all; done) | (simp_all; omega))) | refine e_hit rfl ?_ | refine e_miss rfl ?_ | with_reducible refine ⟨by kernel_rfl, ?_⟩ | refine n_raw ⟨?_⟩ | refine x_raw ⟨?_⟩ | ((with_reducible refine c_grd ?_); (fail_if_success (refine c_lit true rfl rfl rfl ?_)); (fail_if_success (refine c_lit false rfl rfl rfl ?_)); refine c_split rfl rfl (fun _ => ?_) (fun _ => ?_)))
    · exact fun a w hr => leave_now hdf hr Tryz.results10 rfl (par_weak0 0 5) hfree
  · rw [if_neg hb] at *
    have v1 := value_jctr s (by omega) 64 (by decide) 0 (Nat.zero_le _)
    have hvo := jval_ok s 64 0
    cases hv : jval s 64 0 with
    | inr e =>
      obtain ⟨p, e⟩ := e
      rw [hv] at v1 hfree
      repeat' (first | refine td_defer [2, 3, 4] hdf hr0 rfl rfl ?_ | refine td_seq2 ?_ | refine td_last ?_ | with_reducible (first | refine t_seq ?_ | refine t_region ?_ | refine c_nil ?_ | refine n_then ?_ | refine t_ret ?_ | refine t_skip ?_ | refine t_exit ?_ | refine t_block ?_ | refine n_block ?_ | refine e_then ?_ | refine x_then ?_ | refine x_block ?_ | refine t_draw ?_) | refine r_val rfl rfl True.intro ?_ | refine r_gskip rfl rfl rfl ?_ | refine r_gskip2 rfl rfl rfl ?_ | refine r_gval rfl rfl rfl rfl True.intro ?_ | refine t_true rfl ?_ | refine t_false rfl ?_ | ((first | refine t_cond_d rfl ?_ ?_ | refine t_cond_i rfl ?_ ?_ | refine t_cond_j rfl ?_ ?_ | refine t_cond_s rfl ?_ ?_ | refine t_cond_n rfl ?_ ?_ | refine t_cond rfl ?_ ?_ | refine c_split_d rfl rfl ?_ ?_ | refine c_split_i rfl rfl ?_ ?_ | refine c_split_j rfl rfl ?_ ?_ | refine c_split_s rfl rfl ?_ ?_ | refine c_split_n rfl rfl ?_ ?_) <;> intro <;> try (first | (rename_i hz; exact Bool.noConfusion (show true = false from hz)) | (rename_i hz; exact Bool.noConfusion (show false = true from hz)) | (exfalso; omega))) | ((first | refine r_val rfl rfl ?_ ?_ | refine r_gval rfl rfl rfl rfl ?_ ?_ | refine r_obj rfl rfl ?_ ?_ | refine r_sto rfl ?_ ?_ | refine r_gobj rfl rfl rfl rfl ?_ ?_); focus (first | omega | exact Nat.le_of_ble_eq_true rfl | ((repeat first | rw [wrap_u8] | rw [IntKind.wrap_i64] | rw [IntKind.wrap_i32] | rw [wrap_u32'] | rw [wrap_u64']); (repeat' refine And.intro ?_ ?_) <;> omega) | ((repeat' refine And.intro ?_ ?_) <;> first | omega | rfl | exact Nat.le_refl _ | exact Nat.le_of_ble_eq_true rfl | exact bytesF_one _) | (simp_all; done) | (simp_all; omega))) | refine e_hit rfl ?_ | refine e_miss rfl ?_ | with_reducible refine ⟨by kernel_rfl, ?_⟩ | refine n_raw ⟨?_⟩ | refine x_raw ⟨?_⟩ | ((with_reducible refine c_grd ?_); (fail_if_success (refine c_lit true rfl rfl rfl ?_)); (fail_if_success (refine c_lit false rfl rfl rfl ?_)); refine c_split rfl rfl (fun _ => ?_) (fun _ => ?_)))
      intro X1 vs hput
      repeat' (first | refine td_seq2 ?_ | refine td_last ?_ | (refine t_pan (id := 5) 1 ?_; dsimp only [splitOp]) | refine p_lend1 13 rfl Tryz.call20 rfl rfl rfl rfl v1 ?_ | with_reducible (first | refine t_seq ?_ | refine t_region ?_ | refine c_nil ?_ | refine n_then ?_ | refine t_ret ?_ | refine t_skip ?_ | refine t_exit ?_ | refine t_block ?_ | refine n_block ?_ | refine e_then ?_ | refine x_then ?_ | refine x_block ?_ | refine t_draw ?_) | refine r_val rfl rfl True.intro ?_ | refine r_gskip rfl rfl rfl ?_ | refine r_gskip2 rfl rfl rfl ?_ | refine r_gval rfl rfl rfl rfl True.intro ?_ | refine t_true rfl ?_ | refine t_false rfl ?_ | ((first | refine t_cond_d rfl ?_ ?_ | refine t_cond_i rfl ?_ ?_ | refine t_cond_j rfl ?_ ?_ | refine t_cond_s rfl ?_ ?_ | refine t_cond_n rfl ?_ ?_ | refine t_cond rfl ?_ ?_ | refine c_split_d rfl rfl ?_ ?_ | refine c_split_i rfl rfl ?_ ?_ | refine c_split_j rfl rfl ?_ ?_ | refine c_split_s rfl rfl ?_ ?_ | refine c_split_n rfl rfl ?_ ?_) <;> intro <;> try (first | (rename_i hz; exact Bool.noConfusion (show true = false from hz)) | (rename_i hz; exact Bool.noConfusion (show false = true from hz)) | (exfalso; omega))) | ((first | refine r_val rfl rfl ?_ ?_ | refine r_gval rfl rfl rfl rfl ?_ ?_ | refine r_obj rfl rfl ?_ ?_ | refine r_sto rfl ?_ ?_ | refine r_gobj rfl rfl rfl rfl ?_ ?_); focus (first | omega | exact Nat.le_of_ble_eq_true rfl | ((repeat first | rw [wrap_u8] | rw [IntKind.wrap_i64] | rw [IntKind.wrap_i32] | rw [wrap_u32'] | rw [wrap_u64']); (repeat' refine And.intro ?_ ?_) <;> omega) | ((repeat' refine And.intro ?_ ?_) <;> first | omega | rfl | exact Nat.le_refl _ | exact Nat.le_of_ble_eq_true rfl | exact bytesF_one _) | (simp_all; done) | (simp_all; omega))) | refine e_hit rfl ?_ | refine e_miss rfl ?_ | with_reducible refine ⟨by kernel_rfl, ?_⟩ | refine p_then ?_ | refine p_block ?_ | refine p_raw ⟨?_⟩ | ((with_reducible refine c_grd ?_); (fail_if_success (refine c_lit true rfl rfl rfl ?_)); (fail_if_success (refine c_lit false rfl rfl rfl ?_)); refine c_split rfl rfl (fun _ => ?_) (fun _ => ?_)))
      exact fun a w hr => (end_put hput Tryz.call19 (told_ctr p e) (fun h => by cases h) rfl ⟨rfl, rfl, rfl, trivial⟩ rfl rfl (by decide) rfl rfl hr Tryz.results10 _ (fO_cons3 _ 2 3 4 _ _ _ (by decide) (by decide) (by decide)) rfl (par_weak0 p e) hfree)
    | inl r =>
      obtain ⟨x, m⟩ := r
      rw [hv] at v1 hfree
      obtain ⟨k, y, n, d, e, t, l, ks⟩ := x
      have v1' : CtrO Tryz.prog 20 [.pv 13 0, .i .i64 ((64 : Nat) : Int)] (rdr s 0) (.ag [.i .i64 k, .b y, .b n, .s d, .i .i64 e, .s t, .sl 8 l.length (jF l), .sl 1 ks.length (txF ks)]) (rdr s m) := by
        rw [← jC_mk]
        exact v1
      have hml : m ≤ s.length := (hvo _ _ (Nat.zero_le _) hv).2
      have s1 := jskip_ctr s m (by omega) hml
      have hsk := skN_le hml
      clear v1 hvo hv
      dsimp only at hfree
      show TD _ _ _ _ _ _ (bodyPostD _ _ (Fin _ (parD (if skN s m < s.length then (j0, skN s m, 3) else (.mk k y n d e t l ks, s.length, 0)))))
      by_cases hq : skN s m < s.length
      · rw [if_pos hq] at hfree ⊢
        have f1 := jfail_ctr (skN s m) 3
        repeat' (first | refine td_defer [2, 3, 4] hdf hr0 rfl rfl ?_ | refine td_seq2 ?_ | refine td_last ?_ | with_reducible (first | refine t_seq ?_ | refine t_region ?_ | refine c_nil ?_ | refine n_then ?_ | refine t_ret ?_ | refine t_skip ?_ | refine t_exit ?_ | refine t_block ?_ | refine n_block ?_ | refine e_then ?_ | refine x_then ?_ | refine x_block ?_ | refine t_draw ?_) | refine r_val rfl rfl True.intro ?_ | refine r_gskip rfl rfl rfl ?_ | refine r_gskip2 rfl rfl rfl ?_ | refine r_gval rfl rfl rfl rfl True.intro ?_ | refine t_true rfl ?_ | refine t_false rfl ?_ | ((first | refine t_cond_d rfl ?_ ?_ | refine t_cond_i rfl ?_ ?_ | refine t_cond_j rfl ?_ ?_ | refine t_cond_s rfl ?_ ?_ | refine t_cond_n rfl ?_ ?_ | refine t_cond rfl ?_ ?_ | refine c_split_d rfl rfl ?_ ?_ | refine c_split_i rfl rfl ?_ ?_ | refine c_split_j rfl rfl ?_ ?_ | refine c_split_s rfl rfl ?_ ?_ | refine c_split_n rfl rfl ?_ ?_) <;> intro <;> try (first | (rename_i hz; exact Bool.noConfusion (show true = false from hz)) | (rename_i hz; exact Bool.noConfusion (show false = true from hz)) | (exfalso; omega))) | ((first | refine r_val rfl rfl ?_ ?_ | refine r_gval rfl rfl rfl rfl ?_ ?_ | refine r_obj rfl rfl ?_ ?_ | refine r_sto rfl ?_ ?_ | refine r_gobj rfl rfl rfl rfl ?_ ?_); focus (first | omega | exact Nat.le_of_ble_eq_true rfl | ((repeat first | rw [wrap_u8] | rw [IntKind.wrap_i64] | rw [IntKind.wrap_i32] | rw [wrap_u32'] | rw [wrap_u64']); (repeat' refine And.intro ?_ ?_) <;> omega) | ((repeat' refine And.intro ?_ ?_) <;> first | omega | rfl | exact Nat.le_refl _ | exact Nat.le_of_ble_eq_true rfl | exact bytesF_one _) | (simp_all; done) | (simp_all; omega))) | refine e_hit rfl ?_ | refine e_miss rfl ?_ | with_reducible refine ⟨by kernel_rfl, ?_⟩ | refine n_raw ⟨?_⟩ | refine x_raw ⟨?_⟩ | ((with_reducible refine c_grd ?_); (fail_if_success (refine c_lit true rfl rfl rfl ?_)); (fail_if_success (refine c_lit false rfl rfl rfl ?_)); refine c_split rfl rfl (fun _ => ?_) (fun _ => ?_)))
        intro X1 vs hput
        repeat' (first | refine td_seq2 ?_ | refine td_last ?_ | (refine t_pan (id := 8) 4 ?_; dsimp only [splitOp]) | refine r_lend1 (f := 20) 13 rfl rfl Tryz.call20 rfl rfl rfl rfl rfl v1' ?_ | refine r_lend1 (f := 21) 13 rfl rfl Tryz.call21 rfl rfl rfl rfl rfl s1 ?_ | refine p_call rfl Tryz.call22 rfl f1 ?_ | with_reducible (first | refine t_seq ?_ | refine t_region ?_ | refine c_nil ?_ | refine n_then ?_ | refine t_ret ?_ | refine t_skip ?_ | refine t_exit ?_ | refine t_block ?_ | refine n_block ?_ | refine e_then ?_ | refine x_then ?_ | refine x_block ?_ | refine t_draw ?_) | refine r_val rfl rfl True.intro ?_ | refine r_gskip rfl rfl rfl ?_ | refine r_gskip2 rfl rfl rfl ?_ | refine r_gval rfl rfl rfl rfl True.intro ?_ | refine t_true rfl ?_ | refine t_false rfl ?_ | ((first | refine t_cond_d rfl ?_ ?_ | refine t_cond_i rfl ?_ ?_ | refine t_cond_j rfl ?_ ?_ | refine t_cond_s rfl ?_ ?_ | refine t_cond_n rfl ?_ ?_ | refine t_cond rfl ?_ ?_ | refine c_split_d rfl rfl ?_ ?_ | refine c_split_i rfl rfl ?_ ?_ | refine c_split_j rfl rfl ?_ ?_ | refine c_split_s rfl rfl ?_ ?_ | refine c_split_n rfl rfl ?_ ?_) <;> intro <;> try (first | (rename_i hz; exact Bool.noConfusion (show true = false from hz)) | (rename_i hz; exact Bool.noConfusion (show false = true from hz)) | (exfalso; omega))) | ((first | refine r_val rfl rfl ?_ ?_ | refine r_gval rfl rfl rfl rfl ?_ ?_ | refine r_obj rfl rfl ?_ ?_ | refine r_sto rfl ?_ ?_ | refine r_gobj rfl rfl rfl rfl ?_ ?_); focus (first | omega | exact Nat.le_of_ble_eq_true rfl | ((repeat first | rw [wrap_u8] | rw [IntKind.wrap_i64] | rw [IntKind.wrap_i32] | rw [wrap_u32'] | rw [wrap_u64']); (repeat' refine And.intro ?_ ?_) <;> omega) | ((repeat' refine And.intro ?_ ?_) <;> first | omega | rfl | exact Nat.le_refl _ | exact Nat.le_of_ble_eq_true rfl | exact bytesF_one _) | (simp_all; done) | (simp_all; omega))) | refine e_hit rfl ?_ | refine e_miss rfl ?_ | with_reducible refine ⟨by kernel_rfl, ?_⟩ | refine p_then ?_ | refine p_block ?_ | refine p_raw ⟨?_⟩ | ((with_reducible refine c_grd ?_); (fail_if_success (refine c_lit true rfl rfl rfl ?_)); (fail_if_success (refine c_lit false rfl rfl rfl ?_)); refine c_split rfl rfl (fun _ => ?_) (fun _ => ?_)))
        exact fun a w hr => (end_put hput Tryz.call19 (told_ctr (skN s m) 3) (fun h => by cases h) rfl ⟨rfl, rfl, rfl, trivial⟩ rfl rfl (by decide) rfl rfl hr Tryz.results10 _ (fO_cons3 _ 2 3 4 _ _ _ (by decide) (by decide) (by decide)) rfl (par_weak0 (skN s m) 3) hfree)
      · rw [if_neg hq] at hfree ⊢
        unfold parD at hfree ⊢
        dsimp only at hfree ⊢
        rw [jC_mk] at hfree ⊢
        repeat' (first | refine td_defer [2, 3, 4] hdf hr0 rfl rfl ?_ | refine td_seq2 ?_ | refine td_last ?_ | with_reducible (first | refine t_seq ?_ | refine t_region ?_ | refine c_nil ?_ | refine n_then ?_ | refine t_ret ?_ | refine t_skip ?_ | refine t_exit ?_ | refine t_block ?_ | refine n_block ?_ | refine e_then ?_ | refine x_then ?_ | refine x_block ?_ | refine t_draw ?_) | refine r_val rfl rfl True.intro ?_ | refine r_gskip rfl rfl rfl ?_ | refine r_gskip2 rfl rfl rfl ?_ | refine r_gval rfl rfl rfl rfl True.intro ?_ | refine t_true rfl ?_ | refine t_false rfl ?_ | ((first | refine t_cond_d rfl ?_ ?_ | refine t_cond_i rfl ?_ ?_ | refine t_cond_j rfl ?_ ?_ | refine t_cond_s rfl ?_ ?_ | refine t_cond_n rfl ?_ ?_ | refine t_cond rfl ?_ ?_ | refine c_split_d rfl rfl ?_ ?_ | refine c_split_i rfl rfl ?_ ?_ | refine c_split_j rfl rfl ?_ ?_ | refine c_split_s rfl rfl ?_ ?_ | refine c_split_n rfl rfl ?_ ?_) <;> intro <;> try (first | (rename_i hz; exact Bool.noConfusion (show true = false from hz)) | (rename_i hz; exact Bool.noConfusion (show false = true from hz)) | (exfalso; omega))) | ((first | refine r_val rfl rfl ?_ ?_ | refine r_gval rfl rfl rfl rfl ?_ ?_ | refine r_obj rfl rfl ?_ ?_ | refine r_sto rfl ?_ ?_ | refine r_gobj rfl rfl rfl rfl ?_ ?_); focus (first | omega | exact Nat.le_of_ble_eq_true rfl | ((repeat first | rw [wrap_u8] | rw [IntKind.wrap_i64] | rw [IntKind.wrap_i32] | rw [wrap_u32'] | rw [wrap_u64']); (repeat' refine And.intro ?_ ?_) <;> omega) | ((repeat' refine And.intro ?_ ?_) <;> first | omega | rfl | exact Nat.le_refl _ | exact Nat.le_of_ble_eq_true rfl | exact bytesF_one _) | (simp_all; done) | (simp_all; omega))) | refine e_hit rfl ?_ | refine e_miss rfl ?_ | with_reducible refine ⟨by kernel_rfl, ?_⟩ | refine n_raw ⟨?_⟩ | refine x_raw ⟨?_⟩ | ((with_reducible refine c_grd ?_); (fail_if_success (refine c_lit true rfl rfl rfl ?_)); (fail_if_success (refine c_lit false rfl rfl rfl ?_)); refine c_split rfl rfl (fun _ => ?_) (fun _ => ?_)))
        intro X1 vs hput
        repeat' (first | refine td_seq2 ?_ | refine td_last ?_ | refine r_lend1 (f := 20) 13 rfl rfl Tryz.call20 rfl rfl rfl rfl rfl v1' ?_ | refine r_lend1 (f := 21) 13 rfl rfl Tryz.call21 rfl rfl rfl rfl rfl s1 ?_ | with_reducible (first | refine t_seq ?_ | refine t_region ?_ | refine c_nil ?_ | refine n_then ?_ | refine t_ret ?_ | refine t_skip ?_ | refine t_exit ?_ | refine t_block ?_ | refine n_block ?_ | refine e_then ?_ | refine x_then ?_ | refine x_block ?_ | refine t_draw ?_) | refine r_val rfl rfl True.intro ?_ | refine r_gskip rfl rfl rfl ?_ | refine r_gskip2 rfl rfl rfl ?_ | refine r_gval rfl rfl rfl rfl True.intro ?_ | refine t_true rfl ?_ | refine t_false rfl ?_ | ((first | refine t_cond_d rfl ?_ ?_ | refine t_cond_i rfl ?_ ?_ | refine t_cond_j rfl ?_ ?_ | refine t_cond_s rfl ?_ ?_ | refine t_cond_n rfl ?_ ?_ | refine t_cond rfl ?_ ?_ | refine c_split_d rfl rfl ?_ ?_ | refine c_split_i rfl rfl ?_ ?_ | refine c_split_j rfl rfl ?_ ?_ | refine c_split_s rfl rfl ?_ ?_ | refine c_split_n rfl rfl ?_ ?_) <;> intro <;> try (first | (rename_i hz; exact Bool.noConfusion (show true = false from hz)) | (rename_i hz; exact Bool.noConfusion (show false = true from hz)) | (exfalso; omega))) | ((first | refine r_val rfl rfl ?_ ?_ | refine r_gval rfl rfl rfl rfl ?_ ?_ | refine r_obj rfl rfl ?_ ?_ | refine r_sto rfl ?_ ?_ | refine r_gobj rfl rfl rfl rfl ?_ ?_); focus (first | omega | exact Nat.le_of_ble_eq_true rfl | ((repeat first | rw [wrap_u8] | rw [IntKind.wrap_i64] | rw [IntKind.wrap_i32] | rw [wrap_u32'] | rw [wrap_u64']); (repeat' refine And.intro ?_ ?_) <;> omega) | ((repeat' refine And.intro ?_ ?_) <;> first | omega | rfl | exact Nat.le_refl _ | exact Nat.le_of_ble_eq_true rfl | exact bytesF_one _) | (simp_all; done) | (simp_all; omega))) | refine e_hit rfl ?_ | refine e_miss rfl ?_ | with_reducible refine ⟨by kernel_rfl, ?_⟩ | refine n_raw ⟨?_⟩ | refine x_raw ⟨?_⟩ | ((with_reducible refine c_grd ?_); (fail_if_success (refine c_lit true rfl rfl rfl ?_)); (fail_if_success (refine c_lit false rfl rfl rfl ?_)); refine c_split rfl rfl (fun _ => ?_) (fun _ => ?_)))
        exact fun a w hr => (end_put hput Tryz.call19 (told0_ctr k y n d e t l ks) (fun h => by cases h) rfl ⟨rfl, rfl, rfl, trivial⟩ rfl rfl (by decide) rfl rfl hr Tryz.results10 _ (fO_cons3 _ 2 3 4 _ _ _ (by decide) (by decide) (by decide)) rfl (.refl _) hfree)

end Go.Proofs.YtbegohehjkjnmaaGreatDoor.Flow

namespace Go.Proofs.YtbegohehjkjnmaaGreatDoor.Flow
open Go

end Go.Proofs.YtbegohehjkjnmaaGreatDoor.Flow

namespace Go.Proofs.YtbegohehjkjnmaaGreatDoor.Flow
open Go

def ValW (s : List UInt8) (val : Nat → JR) : Prop := ∀ i x n, i ≤ s.length → val i = .inl (x, n) → jw x + i ≤ n
theorem jkeys_w {s : List UInt8} {mp : Bool} {ks ks' : List (List UInt8)} {i n : Nat} (hi : i ≤ s.length) (h : jkeys s mp i ks = .inl (ks', n)) : ks'.length + i ≤ ks.length + n := by
  unfold jkeys at h
  split at h
  · cases h1 : jkey s i ks with
    | inr e => rw [h1] at h; cases h
    | inl r =>
      obtain ⟨k, m⟩ := r
      rw [h1] at h
      have := jkey_ok hi h1
      cases h
      rw [List.length_append, List.length_singleton]
      omega
  · cases h
    exact Nat.le_refl _
theorem jgo_w {s : List UInt8} {val : Nat → JR} (hv : ValOk s val) (hw : ValW s val) {mp : Bool} : ∀ (m i : Nat) (l : List J) (ks : List (List UInt8)) (x : J) (n : Nat), s.length - i ≤ m → i ≤ s.length → jgo s val mp i l ks = .inl (x, n) → jw x + i ≤ jwL l + ks.length + n := by
  intro m
  induction m with
  | zero =>
    intro i l ks x n hm hi h
    rw [jgo_eq hv hi] at h
    cases h1 : jkeys s mp i ks with
    | inr e => rw [h1] at h; cases h
    | inl r =>
      obtain ⟨ks', i1⟩ := r
      rw [h1] at h
      have q1 := jkeys_ok hi h1
      dsimp only at h
      cases h2 : val i1 with
      | inr e => rw [h2] at h; cases h
      | inl r =>
        obtain ⟨y, i2⟩ := r
        have q2 := hv _ _ _ q1.2 h2
        omega
  | succ m ih =>
    intro i l ks x n hm hi h
    rw [jgo_eq hv hi] at h
    cases h1 : jkeys s mp i ks with
    | inr e => rw [h1] at h; cases h
    | inl r =>
      obtain ⟨ks', i1⟩ := r
      rw [h1] at h
      have q1 := jkeys_ok hi h1
      have w1 := jkeys_w hi h1
      dsimp only at h
      cases h2 : val i1 with
      | inr e => rw [h2] at h; cases h
      | inl r =>
        obtain ⟨y, i2⟩ := r
        rw [h2] at h
        have q2 := hv _ _ _ q1.2 h2
        have w2 := hw _ _ _ q1.2 h2
        have wa := jwL_app l y
        dsimp only at h
        cases h3 : jpeek s i2 with
        | inr e => rw [h3] at h; cases h
        | inl i3 =>
          rw [h3] at h
          have q3 := jpeek_ok q2.2 h3
          dsimp only at h
          split at h
          · cases h
            unfold manyV
            rw [jw]
            omega
          · split at h
            · have := ih _ _ _ _ _ (by omega) (by omega) h
              omega
            · cases h
theorem jmany_w {s : List UInt8} {val : Nat → JR} (hv : ValOk s val) (hw : ValW s val) {mp : Bool} {i n : Nat} {x : J} (hi : i < s.length) (h : jmany s val mp i = .inl (x, n)) : jw x + i ≤ n := by
  unfold jmany at h
  cases h1 : jpeek s (i + 1) with
  | inr e => rw [h1] at h; cases h
  | inl j =>
    rw [h1] at h
    have q := jpeek_ok hi h1
    dsimp only at h
    split at h
    · cases h
      show 1 + 0 + 0 + i ≤ j + 1
      omega
    · have := jgo_w hv hw _ _ _ _ _ _ (Nat.le_refl _) (by omega) h
      have e : jwL [] = 0 := rfl
      rw [e, List.length_nil] at this
      omega
theorem jval_w (s : List UInt8) : ∀ d, ValW s (jval s d) := by
  intro d
  induction d with
  | zero =>
    intro i x n hi h
    unfold jval at h
    split at h <;> cases h
  | succ d ih =>
    intro i x n hi h
    have hk := jval_ok s (d + 1) i x n hi h
    have lit : ∀ (k : Int) (y g : Bool) (dd : List UInt8) (e : Int) (t : List UInt8), jw (.mk k y g dd e t [] []) = 1 := fun _ _ _ _ _ _ => rfl
    unfold jval at h
    cases h1 : jpeek s i with
    | inr e => rw [h1] at h; cases h
    | inl j =>
      rw [h1] at h
      have q := jpeek_ok hi h1
      dsimp only at h
      unfold jword at h
      split at h
      · split at h <;> cases h
        have := lit 0 false false [] 0 []
        show 1 + i ≤ _
        omega
      · split at h
        · split at h <;> cases h
          show 1 + i ≤ _
          omega
        · split at h
          · split at h <;> cases h
            show 1 + i ≤ _
            omega
          · split at h
            · cases h2 : jtext s j with
              | inr e => rw [h2] at h; cases h
              | inl r =>
                rw [h2] at h
                cases h
                show 1 + i ≤ _
                omega
            · split at h
              · have := jmany_w (jval_ok s d) ih q.2.1 h
                omega
              · split at h
                · have := jmany_w (jval_ok s d) ih q.2.1 h
                  omega
                · unfold jnum at h
                  split at h
                  · cases h
                    show 1 + i ≤ _
                    omega
                  · cases h

end Go.Proofs.YtbegohehjkjnmaaGreatDoor.Flow

namespace Go.Proofs.YtbegohehjkjnmaaGreatDoor.Flow
open Go

theorem Ctr.weakR {P : Program} {f : FuncId} {args : List D} {d d' : D} (h : Ctr P f args d) (hw : Weak d d') : Ctr P f args d' := by
  intro w S vs hv hg hn hr
  refine (h w S vs hv hg hn hr).mono ?_
  rintro e w' ⟨v, S', h1, h2, h3⟩
  exact ⟨v, S', h1, h2.weak hw, h3⟩

theorem jcode_ctr (n : Int) : Ctr Tryz.prog 12 [.i .i64 n] (.i .i64 n) := by
  refine r_fun Tryz.func12 rfl Tryz.ntmps12 Tryz.results12 rfl rfl fun X hL hX => ?_
  repeat' (first | with_reducible (first | refine t_seq ?_ | refine t_region ?_ | refine c_nil ?_ | refine n_then ?_ | refine t_ret ?_ | refine t_skip ?_ | refine t_exit ?_ | refine t_block ?_ | refine n_block ?_ | refine e_then ?_ | refine x_then ?_ | refine x_block ?_ | refine t_draw ?_) | refine r_val rfl rfl True.intro ?_ | refine r_gskip rfl rfl rfl ?_ | refine r_gskip2 rfl rfl rfl ?_ | refine r_gval rfl rfl rfl rfl True.intro ?_ | refine t_true rfl ?_ | refine t_false rfl ?_ | ((first | refine t_cond_d rfl ?_ ?_ | refine t_cond_i rfl ?_ ?_ | refine t_cond_j rfl ?_ ?_ | refine t_cond_s rfl ?_ ?_ | refine t_cond_n rfl ?_ ?_ | refine t_cond rfl ?_ ?_ | refine c_split_d rfl rfl ?_ ?_ | refine c_split_i rfl rfl ?_ ?_ | refine c_split_j rfl rfl ?_ ?_ | refine c_split_s rfl rfl ?_ ?_ | refine c_split_n rfl rfl ?_ ?_) <;> intro <;> try (first | (rename_i hz; exact Bool.noConfusion (show true = false from hz)) | (rename_i hz; exact Bool.noConfusion (show false = true from hz)) | (exfalso; omega))) | ((first | refine r_val rfl rfl ?_ ?_ | refine r_gval rfl rfl rfl rfl ?_ ?_ | refine r_obj rfl rfl ?_ ?_ | refine r_sto rfl ?_ ?_ | refine r_gobj rfl rfl rfl rfl ?_ ?_); focus (first | omega | exact Nat.le_of_ble_eq_true rfl | ((repeat first | rw [wrap_u8] | rw [IntKind.wrap_i64] | rw [IntKind.wrap_i32] | rw [wrap_u32'] | rw [wrap_u64']); (repeat' refine And.intro ?_ ?_) <;> omega) | ((repeat' refine And.intro ?_ ?_) <;> first | omega | rfl | exact Nat.le_refl _ | exact Nat.le_of_ble_eq_true rfl | exact bytesF_one _) | (simp_all; done) | (simp_all; omega))) | refine e_hit rfl ?_ | refine e_miss rfl ?_ | with_reducible refine ⟨by kernel_rfl, ?_⟩ | refine x_end rfl ?_ | ((with_reducible refine c_grd ?_); (fail_if_success (refine c_lit true rfl rfl rfl ?_)); (fail_if_success (refine c_lit false rfl rfl rfl ?_)); refine c_split rfl rfl (fun _ => ?_) (fun _ => ?_)))
  all_goals rfl

def liveA : List UInt8 := [91, 49, 44, 32, 123, 125, 93]
def liveB : List UInt8 := [91, 49, 44, 93]
theorem liveA_eq : (jparse liveA).1.kind = 4 ∧ (jparse liveA).1.list.length = 2 ∧ ((jparse liveA).1.list.getD 1 j0).kind = 5 ∧ (jparse liveA).2 = (7, 0) := by decide +kernel
theorem liveB_eq : (jparse liveB).2 = (3, 3) := by decide +kernel

theorem parD_P (r : J × Nat × Int) : parD r = .tu [.ag (jP r.1), .i .i64 r.2.1, .i .i64 r.2.2] := by
  unfold parD
  rw [jC_P]
set_option maxRecDepth 100000 in
set_option maxHeartbeats 2000000 in
theorem jlive_ctr : Ctr Tryz.prog 5 [] (.b true) := by
  have c1 := parse_jctr liveA (by decide)
  have c2 := parse_jctr liveB (by decide)
  obtain ⟨a1, a2, a3, a4⟩ := liveA_eq
  have b1 := liveB_eq
  rw [parD_P] at c1 c2
  generalize jparse liveA = R at *
  generalize jparse liveB = R' at *
  obtain ⟨x, n, e⟩ := R
  obtain ⟨x', n', e'⟩ := R'
  obtain ⟨k, y, g, d, ex, t, l, ks⟩ := x
  cases a4
  cases b1
  replace a1 : k = 4 := a1
  subst a1
  replace a2 : l.length = 2 := a2
  match l, a2 with
  | [p, q], _ =>
  obtain ⟨k1, y1, g1, d1, ex1, t1, l1, ks1⟩ := q
  replace a3 : k1 = 5 := a3
  subst a3
  replace c1 := Ctr.weakR c1 (.tu3 (jP_Q _) (.refl _) (.refl _))
  have c3 := jcode_ctr 0
  have c4 := jcode_ctr 3
  refine r_fun Tryz.func5 rfl Tryz.ntmps5 Tryz.results5 rfl rfl fun X hL hX => ?_
  repeat' (first | refine r_call (f := 10) rfl rfl Tryz.call10 rfl c1 ?_ | refine r_call (f := 10) rfl rfl Tryz.call10 rfl c2 ?_ | refine r_call (f := 12) rfl rfl Tryz.call12 rfl c3 ?_ | refine r_call (f := 12) rfl rfl Tryz.call12 rfl c4 ?_ | refine r_gcall (f := 12) rfl rfl rfl rfl Tryz.call12 rfl c3 ?_ | refine r_gcall (f := 12) rfl rfl rfl rfl Tryz.call12 rfl c4 ?_ | with_reducible (first | refine t_seq ?_ | refine t_region ?_ | refine c_nil ?_ | refine n_then ?_ | refine t_ret ?_ | refine t_skip ?_ | refine t_exit ?_ | refine t_block ?_ | refine n_block ?_ | refine e_then ?_ | refine x_then ?_ | refine x_block ?_ | refine t_draw ?_) | refine r_val rfl rfl True.intro ?_ | refine r_gskip rfl rfl rfl ?_ | refine r_gskip2 rfl rfl rfl ?_ | refine r_gval rfl rfl rfl rfl True.intro ?_ | refine t_true rfl ?_ | refine t_false rfl ?_ | ((first | refine t_cond_d rfl ?_ ?_ | refine t_cond_i rfl ?_ ?_ | refine t_cond_j rfl ?_ ?_ | refine t_cond_s rfl ?_ ?_ | refine t_cond_n rfl ?_ ?_ | refine t_cond rfl ?_ ?_ | refine c_split_d rfl rfl ?_ ?_ | refine c_split_i rfl rfl ?_ ?_ | refine c_split_j rfl rfl ?_ ?_ | refine c_split_s rfl rfl ?_ ?_ | refine c_split_n rfl rfl ?_ ?_) <;> intro <;> try (first | (rename_i hz; exact Bool.noConfusion (show true = false from hz)) | (rename_i hz; exact Bool.noConfusion (show false = true from hz)) | (exfalso; omega))) | ((first | refine r_val rfl rfl ?_ ?_ | refine r_gval rfl rfl rfl rfl ?_ ?_ | refine r_obj rfl rfl ?_ ?_ | refine r_sto rfl ?_ ?_ | refine r_gobj rfl rfl rfl rfl ?_ ?_); focus (first | omega | exact Nat.le_of_ble_eq_true rfl | ((repeat first | rw [wrap_u8] | rw [IntKind.wrap_i64] | rw [IntKind.wrap_i32] | rw [wrap_u32'] | rw [wrap_u64']); (repeat' refine And.intro ?_ ?_) <;> omega) | ((repeat' refine And.intro ?_ ?_) <;> first | omega | rfl | exact Nat.le_refl _ | exact Nat.le_of_ble_eq_true rfl | exact bytesF_one _) | (simp_all; done) | (simp_all; omega))) | refine e_hit rfl ?_ | refine e_miss rfl ?_ | with_reducible refine ⟨by kernel_rfl, ?_⟩ | refine x_end rfl ?_ | ((with_reducible refine c_grd ?_); (fail_if_success (refine c_lit true rfl rfl rfl ?_)); (fail_if_success (refine c_lit false rfl rfl rfl ?_)); refine c_split rfl rfl (fun _ => ?_) (fun _ => ?_)))
  all_goals first | rfl | (exfalso; rename_i q; exact q rfl) | (exfalso; simp_all; done)

end Go.Proofs.YtbegohehjkjnmaaGreatDoor.Flow

namespace Go.Proofs.YtbegohehjkjnmaaGreatDoor.Flow
open Go

theorem wsum_full {f : Nat → Int} {l : List J} (h0 : ∀ i, i < l.length → 0 ≤ f i) (h1 : ∀ i, i < l.length → f i ≤ 400 → (jb (l.getD i j0) : Int) ≤ f i) :
    ∀ (m i : Nat) (n : Int), l.length - i ≤ m → i ≤ l.length → wsum f l.length i n ≤ 400 → 0 ≤ n → n + jbL (l.drop i) ≤ wsum f l.length i n := by
  intro m
  induction m with
  | zero =>
    intro i n hm hi hw hn
    have e : l.drop i = [] := List.drop_eq_nil_of_le (by omega)
    rw [wsum, if_neg (by omega), e]
    show n + 0 ≤ n
    omega
  | succ m ih =>
    intro i n hm hi hw hn
    by_cases hil : i < l.length
    · have e : l.drop i = l.getD i j0 :: l.drop (i + 1) := by
        rw [List.drop_eq_getElem_cons hil]
        simp [List.getD_eq_getElem?_getD, hil]
      have hn4 : n ≤ 400 := by
        by_cases q : n ≤ 400
        · exact q
        · rw [wsum, if_neg (fun z => q z.2)] at hw
          exact hw
      rw [wsum, if_pos ⟨hil, hn4⟩] at hw ⊢
      have a0 := h0 i hil
      have h2 := ih (i + 1) (n + f i) (by omega) (by omega) hw (by omega)
      have h3 := h1 i hil (by omega)
      rw [e, jbL]
      push_cast
      omega
    · have e : l.drop i = [] := List.drop_eq_nil_of_le (by omega)
      rw [wsum, if_neg (fun z => hil z.1), e]
      show n + 0 ≤ n
      omega
theorem jb_wg : ∀ (d : Nat) (x : J), jb x ≤ 4194304 → wgJ d x ≤ 400 → (jb x : Int) ≤ wgJ d x := by
  intro d
  induction d with
  | zero => intro x _ h; unfold wgJ at h; omega
  | succ d ih =>
    intro x hb h
    have he := jb_eq x
    have hk := txL_len x.keys
    unfold wgJ at h ⊢
    by_cases q : 400 < x.list.length ∨ 400 < x.keys.length
    · rw [if_pos q] at h
      omega
    · rw [if_neg q] at h ⊢
      have := wsum_full (f := fun i => wgJ d (x.list.getD i j0)) (l := x.list) (fun i hi => (wgJ_le d _ (by have := jbL_at hi; omega)).1) (fun i hi h2 => ih _ (by have := jbL_at hi; omega) h2) _ 0 _ (Nat.le_refl _) (Nat.zero_le _) h (by omega)
      rw [List.drop_zero] at this
      omega

theorem text_jparse {x : J} (h : rightJ 64 x = true) (hl : (textJ x).length ≤ 1048576) : ∃ y, jparse (textJ x) = (y, (textJ x).length, 0) ∧ sameJ x y = true := by
  obtain ⟨y, q, sm⟩ := back 64 x h (textJ x) 0 [] (by rw [List.drop_zero, List.append_nil]) (.inl rfl)
  refine ⟨y, ?_, sm⟩
  have hk := skN_le (Nat.le_refl (textJ x).length)
  unfold jparse
  rw [if_neg (by omega), q, Nat.zero_add]
  dsimp only
  rw [if_neg (by omega)]

set_option maxRecDepth 100000 in
set_option maxHeartbeats 8000000 in
theorem jlaw_texts_ctr (x : J) (hx : jb x ≤ 4194304) : Ctr Tryz.prog 3 [.ag (jP x)] (.b true) := by
  have hl := jlive_ctr
  have b1 := big_ctr x hx
  by_cases hbig : 400 < wgJ 80 x
  · rw [decide_eq_true hbig] at b1
    refine r_fun Tryz.func3 rfl Tryz.ntmps3 Tryz.results3 rfl rfl fun X hL hX => ?_
    repeat' (first | refine r_call (f := 4) rfl rfl Tryz.call4 rfl b1 ?_ | refine r_call (f := 5) rfl rfl Tryz.call5 rfl hl ?_ | with_reducible (first | refine t_seq ?_ | refine t_region ?_ | refine c_nil ?_ | refine n_then ?_ | refine t_ret ?_ | refine t_skip ?_ | refine t_exit ?_ | refine t_block ?_ | refine n_block ?_ | refine e_then ?_ | refine x_then ?_ | refine x_block ?_ | refine t_draw ?_) | refine r_val rfl rfl True.intro ?_ | refine r_gskip rfl rfl rfl ?_ | refine r_gskip2 rfl rfl rfl ?_ | refine r_gval rfl rfl rfl rfl True.intro ?_ | refine t_true rfl ?_ | refine t_false rfl ?_ | ((first | refine t_cond_d rfl ?_ ?_ | refine t_cond_i rfl ?_ ?_ | refine t_cond_j rfl ?_ ?_ | refine t_cond_s rfl ?_ ?_ | refine t_cond_n rfl ?_ ?_ | refine t_cond rfl ?_ ?_ | refine c_split_d rfl rfl ?_ ?_ | refine c_split_i rfl rfl ?_ ?_ | refine c_split_j rfl rfl ?_ ?_ | refine c_split_s rfl rfl ?_ ?_ | refine c_split_n rfl rfl ?_ ?_) <;> intro <;> try (first | (rename_i hz; exact Bool.noConfusion (show true = false from hz)) | (rename_i hz; exact Bool.noConfusion (show false = true from hz)) | (exfalso; omega))) | ((first | refine r_val rfl rfl ?_ ?_ | refine r_gval rfl rfl rfl rfl ?_ ?_ | refine r_obj rfl rfl ?_ ?_ | refine r_sto rfl ?_ ?_ | refine r_gobj rfl rfl rfl rfl ?_ ?_); focus (first | omega | exact Nat.le_of_ble_eq_true rfl | ((repeat first | rw [wrap_u8] | rw [IntKind.wrap_i64] | rw [IntKind.wrap_i32] | rw [wrap_u32'] | rw [wrap_u64']); (repeat' refine And.intro ?_ ?_) <;> omega) | ((repeat' refine And.intro ?_ ?_) <;> first | omega | rfl | exact Nat.le_refl _ | exact Nat.le_of_ble_eq_true rfl | exact bytesF_one _) | (simp_all; done) | (simp_all; omega))) | refine e_hit rfl ?_ | refine e_miss rfl ?_ | with_reducible refine ⟨by kernel_rfl, ?_⟩ | refine x_end rfl ?_ | refine n_end rfl ?_ | ((with_reducible refine c_grd ?_); (fail_if_success (refine c_lit true rfl rfl rfl ?_)); (fail_if_success (refine c_lit false rfl rfl rfl ?_)); refine c_split rfl rfl (fun _ => ?_) (fun _ => ?_)))
    all_goals rfl
  rw [decide_eq_false hbig] at b1
  have hj := jb_wg 80 x hx (by omega)
  have hj4 : jb x ≤ 400 := by omega
  have c1 := textT_jctr x (by omega)
  have c2 := rightT_jctr x hx
  have c3 := rrightT_jctr x hx
  have c4 := rtextT_jctr x (by omega)
  cases hr : rightJ 64 x with
  | false =>
    rw [hr] at c1 c2 c3 c4
    rw [if_neg Bool.false_ne_true] at c1 c4
    refine r_fun Tryz.func3 rfl Tryz.ntmps3 Tryz.results3 rfl rfl fun X hL hX => ?_
    repeat' (first | refine r_call (f := 4) rfl rfl Tryz.call4 rfl b1 ?_ | refine r_call (f := 6) rfl rfl Tryz.call6 rfl c1 ?_ | refine r_call (f := 7) rfl rfl Tryz.call7 rfl c2 ?_ | refine r_call (f := 8) rfl rfl Tryz.call8 rfl c3 ?_ | refine r_gcall (f := 9) rfl rfl rfl rfl Tryz.call9 rfl c4 ?_ | refine r_gcall (f := 5) rfl rfl rfl rfl Tryz.call5 rfl hl ?_ | with_reducible (first | refine t_seq ?_ | refine t_region ?_ | refine c_nil ?_ | refine n_then ?_ | refine t_ret ?_ | refine t_skip ?_ | refine t_exit ?_ | refine t_block ?_ | refine n_block ?_ | refine e_then ?_ | refine x_then ?_ | refine x_block ?_ | refine t_draw ?_) | refine r_val rfl rfl True.intro ?_ | refine r_gskip rfl rfl rfl ?_ | refine r_gskip2 rfl rfl rfl ?_ | refine r_gval rfl rfl rfl rfl True.intro ?_ | refine t_true rfl ?_ | refine t_false rfl ?_ | ((first | refine t_cond_d rfl ?_ ?_ | refine t_cond_i rfl ?_ ?_ | refine t_cond_j rfl ?_ ?_ | refine t_cond_s rfl ?_ ?_ | refine t_cond_n rfl ?_ ?_ | refine t_cond rfl ?_ ?_ | refine c_split_d rfl rfl ?_ ?_ | refine c_split_i rfl rfl ?_ ?_ | refine c_split_j rfl rfl ?_ ?_ | refine c_split_s rfl rfl ?_ ?_ | refine c_split_n rfl rfl ?_ ?_) <;> intro <;> try (first | (rename_i hz; exact Bool.noConfusion (show true = false from hz)) | (rename_i hz; exact Bool.noConfusion (show false = true from hz)) | (exfalso; omega))) | ((first | refine r_val rfl rfl ?_ ?_ | refine r_gval rfl rfl rfl rfl ?_ ?_ | refine r_obj rfl rfl ?_ ?_ | refine r_sto rfl ?_ ?_ | refine r_gobj rfl rfl rfl rfl ?_ ?_); focus (first | omega | exact Nat.le_of_ble_eq_true rfl | ((repeat first | rw [wrap_u8] | rw [IntKind.wrap_i64] | rw [IntKind.wrap_i32] | rw [wrap_u32'] | rw [wrap_u64']); (repeat' refine And.intro ?_ ?_) <;> omega) | ((repeat' refine And.intro ?_ ?_) <;> first | omega | rfl | exact Nat.le_refl _ | exact Nat.le_of_ble_eq_true rfl | exact bytesF_one _) | (simp_all; done) | (simp_all; omega))) | refine e_hit rfl ?_ | refine e_miss rfl ?_ | with_reducible refine ⟨by kernel_rfl, ?_⟩ | refine x_end rfl ?_ | refine n_end rfl ?_ | ((with_reducible refine c_grd ?_); (fail_if_success (refine c_lit true rfl rfl rfl ?_)); (fail_if_success (refine c_lit false rfl rfl rfl ?_)); refine c_split rfl rfl (fun _ => ?_) (fun _ => ?_)))
    all_goals first | rfl | (exfalso; rename_i q; exact q rfl) | (exfalso; simp_all; done)
  | true =>
    rw [hr] at c1 c2 c3 c4
    rw [if_pos rfl] at c1 c4
    have hlen := text_le 64 x hr
    obtain ⟨y, hp, sm⟩ := text_jparse hr (by omega)
    have c5 := parse_jctr (textJ x) (by omega)
    rw [parD_P, hp] at c5
    dsimp only at c5
    have hjw := jw_jb x
    have c6 := rsame_ctr _ x y (Nat.lt_succ_self _) (by omega)
    rw [sm] at c6
    have c7 := jcode_ctr 0
    generalize textJ x = R at *
    refine r_fun Tryz.func3 rfl Tryz.ntmps3 Tryz.results3 rfl rfl fun X hL hX => ?_
    repeat' (first | refine r_call (f := 4) rfl rfl Tryz.call4 rfl b1 ?_ | refine r_call (f := 6) rfl rfl Tryz.call6 rfl c1 ?_ | refine r_call (f := 7) rfl rfl Tryz.call7 rfl c2 ?_ | refine r_call (f := 8) rfl rfl Tryz.call8 rfl c3 ?_ | refine r_gcall (f := 9) rfl rfl rfl rfl Tryz.call9 rfl c4 ?_ | refine r_gcall (f := 5) rfl rfl rfl rfl Tryz.call5 rfl hl ?_ | refine r_call (f := 10) rfl rfl Tryz.call10 rfl c5 ?_ | refine r_call (f := 11) rfl rfl Tryz.call11 rfl c6 ?_ | refine r_gcall (f := 12) rfl rfl rfl rfl Tryz.call12 rfl c7 ?_ | with_reducible (first | refine t_seq ?_ | refine t_region ?_ | refine c_nil ?_ | refine n_then ?_ | refine t_ret ?_ | refine t_skip ?_ | refine t_exit ?_ | refine t_block ?_ | refine n_block ?_ | refine e_then ?_ | refine x_then ?_ | refine x_block ?_ | refine t_draw ?_) | refine r_val rfl rfl True.intro ?_ | refine r_gskip rfl rfl rfl ?_ | refine r_gskip2 rfl rfl rfl ?_ | refine r_gval rfl rfl rfl rfl True.intro ?_ | refine t_true rfl ?_ | refine t_false rfl ?_ | ((first | refine t_cond_d rfl ?_ ?_ | refine t_cond_i rfl ?_ ?_ | refine t_cond_j rfl ?_ ?_ | refine t_cond_s rfl ?_ ?_ | refine t_cond_n rfl ?_ ?_ | refine t_cond rfl ?_ ?_ | refine c_split_d rfl rfl ?_ ?_ | refine c_split_i rfl rfl ?_ ?_ | refine c_split_j rfl rfl ?_ ?_ | refine c_split_s rfl rfl ?_ ?_ | refine c_split_n rfl rfl ?_ ?_) <;> intro <;> try (first | (rename_i hz; exact Bool.noConfusion (show true = false from hz)) | (rename_i hz; exact Bool.noConfusion (show false = true from hz)) | (exfalso; omega))) | ((first | refine r_val rfl rfl ?_ ?_ | refine r_gval rfl rfl rfl rfl ?_ ?_ | refine r_obj rfl rfl ?_ ?_ | refine r_sto rfl ?_ ?_ | refine r_gobj rfl rfl rfl rfl ?_ ?_); focus (first | omega | exact Nat.le_of_ble_eq_true rfl | ((repeat first | rw [wrap_u8] | rw [IntKind.wrap_i64] | rw [IntKind.wrap_i32] | rw [wrap_u32'] | rw [wrap_u64']); (repeat' refine And.intro ?_ ?_) <;> omega) | ((repeat' refine And.intro ?_ ?_) <;> first | omega | rfl | exact Nat.le_refl _ | exact Nat.le_of_ble_eq_true rfl | exact bytesF_one _) | (simp_all; done) | (simp_all; omega))) | refine e_hit rfl ?_ | refine e_miss rfl ?_ | with_reducible refine ⟨by kernel_rfl, ?_⟩ | refine x_end rfl ?_ | refine n_end rfl ?_ | ((with_reducible refine c_grd ?_); (fail_if_success (refine c_lit true rfl rfl rfl ?_)); (fail_if_success (refine c_lit false rfl rfl rfl ?_)); refine c_split rfl rfl (fun _ => ?_) (fun _ => ?_)))
    all_goals first | rfl | (exfalso; rename_i q; exact q rfl) | (exfalso; simp_all; done)

end Go.Proofs.YtbegohehjkjnmaaGreatDoor.Flow

namespace Go.Proofs.YtbegohehjkjnmaaGreatDoor.Flow
open Go.ChangeShapes Go.WideShapes Go.ChangeAt Go.RowKit

theorem prog_own : ownKnob Tryz.prog.godebug = none := by kernel_rfl
theorem prog_laid : laidOutB Tryz.prog = true := by kernel_rfl

variable {H : Type} {enc : TypeId × Value → H}

def allOf (W : World) : Cells := fun b _ => b < W.heap.size

theorem below_of_hist {W W' : World} {S' : Cells} (h : Hist { w0 := W, S0 := allOf W, L := fun _ => False } W' S') : Below W.heap.size W W' :=
  ⟨h.os, h.tape, h.output, h.size, fun k hk => h.block k hk (fun h => h)⟩

theorem trodAll_below {W W' : World} (hb : Below W.heap.size W W') {sp : Nat → Bool} : ∀ {ts : List TypeId} {vs : List Value} {ds : List (DataW H)} {ps : List MemPlace}, (∀ t ∈ ts, Tryz.prog.readableRec t = true ∧ t < Tryz.prog.types.size) → (∀ x ∈ ps, x.block < W.heap.size) →
    DataW.TrodAll enc Tryz.prog W 0 (fun _ => true) true ts vs ds ps → (∀ p ∈ ps, sp p.block = true) → DataW.TrodAll enc Tryz.prog W' 0 sp true ts vs ds ps
  | [], [], [], _, _, _, h, _ => h
  | [], [], _ :: _, _, _, _, h, _ => h.elim
  | [], _ :: _, _, _, _, _, h, _ => h.elim
  | _ :: _, [], _, _, _, _, h, _ => h.elim
  | _ :: _, _ :: _, [], _, _, _, h, _ => h.elim
  | t :: ts, v :: vs, d :: ds, ps, ht, hlt, h, hsp => by
    obtain ⟨p, q, h1, h2, rfl⟩ := h
    refine ⟨p, q, ?_, trodAll_below hb (fun t ht' => ht t (by simp [ht'])) (fun x hx => hlt x (by simp [hx])) h2 (fun x hx => hsp x (by simp [hx])), rfl⟩
    exact WideElems.Trod_stays prog_laid (ht t (by simp)).1 (ht t (by simp)).2 h1 (fun x hx => hb.same (hlt x (by simp [hx]))) (fun x hx => hsp x (by simp [hx]))

theorem law_post {f : Func} {s : ChangeSpec} {apart fresh handsOn : Bool} {W W' : World} {args : Array Value} {ds gs : List (DataW H)} {before : List MemPlace} {t : TypeId}
    (hW : DataW.Whole enc Tryz.prog f.params.toList s.vars apart W args.toList ds gs before) (hvars : s.vars = []) (hpar : ∀ t ∈ f.params.toList, Tryz.prog.readableRec t = true ∧ t < Tryz.prog.types.size)
    (hres : f.resultTypes = #[t]) (ht : Tryz.prog.underlying t = some .bool) (hspec : s.fn H (ds ++ gs) = { results := [.lit (.bool true)], args := ds }) (hb : Below W.heap.size W W') :
    s.post enc Tryz.prog f apart fresh handsOn false W args (.bool true) W' := by
  have hW' := hW
  obtain ⟨p, q, hA, hV, rfl, hfz, hnd⟩ := hW
  rw [hvars] at hV
  have hq : gs = [] ∧ q = [] := by
    cases gs with
    | nil => exact ⟨rfl, hV⟩
    | cons => exact hV.elim
  obtain ⟨rfl, rfl⟩ := hq
  have hlt : ∀ x ∈ p, x.block < W.heap.size := fun x hx => by simpa using hW'.lt x (by simpa using hx)
  refine ⟨ds, [], p ++ [], [], p, [], hW', ?_, ?_, ?_, hb.frame _, fun h => nomatch h⟩
  · rw [hspec, hres]
    exact trodAll_mk1 (shut_bool ht true)
  · rw [hspec]
    exact trodAll_below hb hpar hlt hA (fun x hx => by simpa using hlt x hx)
  · rw [hspec, hvars]
    rfl

end Go.Proofs.YtbegohehjkjnmaaGreatDoor.Flow
