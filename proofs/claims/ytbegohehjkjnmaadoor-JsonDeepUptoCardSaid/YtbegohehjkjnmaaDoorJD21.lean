/- The texts J7, J11, J12, J13, J14, J15, J16, J17, one behind the other. -/
import Derived.Test.YtbegohehjkjnmaaDoorJD19
import Derived.Test.YtbegohehjkjnmaaDoorJD20
/- JSON: the program's Parse. -/
namespace Go.Proofs.YtbegohehjkjnmaaDoor.Flow
open Go

section
variable {c0 c1 c2 c3 c4 c5 c6 c7 : D} {q z : Int}
abbrev pObj (c0 c1 c2 c3 c4 c5 c6 c7 : D) (q z : Int) : Ow := [(2, .var [c0, c1, c2, c3, c4, c5, c6, c7]), (3, .var [.i .i64 q]), (4, .var [.i .i64 z])]

set_option maxRecDepth 100000 in
set_option maxHeartbeats 1000000 in
theorem told_ctr (p : Nat) (e : Int) : CtrD Tryd.prog 24 [.pv 2 0, .pv 3 0, .pv 4 0] (pObj c0 c1 c2 c3 c4 c5 c6 c7 q z) (.panicking (pchain (pvS p e)))
    [(2, .var j0C), (3, .var [.i .i64 p]), (4, .var [.i .i64 e])] (.panicking [{ v := pvS p e, recovered := true }]) := by
  refine CtrD.of_TS Tryd.func24 rfl Tryd.ntmps24 Tryd.results24 (by decide) rfl rfl rfl fun X c₀ cs hL hX hdf hu => ?_
  refine ts_recover ({ c₀ with mode := .panicking [{ v := pvS p e, recovered := true }] } :: cs) (pvS p e) rfl (by
    have h0 : recoverD (c₀ :: cs) = some (pvS p e, { c₀ with mode := .panicking [{ v := pvS p e, recovered := true }] } :: cs) := by
      simp only [recoverD, hu, pchain]
    rw [h0]
    exact ⟨rfl, rfl⟩) rfl ?_
  repeat' (first
    | refine r_assert2 Tryd.underlying55 rfl rfl ?_ | refine r_varAt 60 rfl rfl rfl rfl rfl ?_
    | with_reducible (first | refine t_seq ?_ | refine t_region ?_ | refine c_nil ?_ | refine n_then ?_ | refine t_ret ?_ | refine t_skip ?_ | refine t_exit ?_ | refine t_block ?_ | refine n_block ?_ | refine e_then ?_ | refine x_then ?_ | refine x_block ?_ | refine t_draw ?_)
    | refine r_val rfl rfl True.intro ?_ | refine r_gskip rfl rfl rfl ?_ | refine r_gskip2 rfl rfl rfl ?_ | refine r_gval rfl rfl rfl rfl True.intro ?_
    | refine t_true rfl ?_ | refine t_false rfl ?_
    | ((first | refine t_cond_d rfl ?_ ?_ | refine t_cond_i rfl ?_ ?_ | refine t_cond_j rfl ?_ ?_ | refine t_cond_s rfl ?_ ?_ | refine t_cond_n rfl ?_ ?_ | refine t_cond rfl ?_ ?_ | refine c_split_d rfl rfl ?_ ?_ | refine c_split_i rfl rfl ?_ ?_ | refine c_split_j rfl rfl ?_ ?_ | refine c_split_s rfl rfl ?_ ?_ | refine c_split_n rfl rfl ?_ ?_) <;> intro <;> try (first | (rename_i hz; exact Bool.noConfusion (show true = false from hz)) | (rename_i hz; exact Bool.noConfusion (show false = true from hz)) | (exfalso; omega)))
    | ((first | refine r_val rfl rfl ?_ ?_ | refine r_gval rfl rfl rfl rfl ?_ ?_ | refine r_obj rfl rfl ?_ ?_ | refine r_sto rfl ?_ ?_ | refine r_gobj rfl rfl rfl rfl ?_ ?_); focus (first | omega | exact Nat.le_of_ble_eq_true rfl | ((repeat first | rw [wrap_u8] | rw [IntKind.wrap_i64] | rw [IntKind.wrap_i32] | rw [wrap_u32'] | rw [wrap_u64']); (repeat' refine And.intro ?_ ?_) <;> omega) | ((repeat' refine And.intro ?_ ?_) <;> first | omega | rfl | exact Nat.le_refl _ | exact Nat.le_of_ble_eq_true rfl | exact bytesF_one _) | (simp_all; done) | (simp_all; omega)))
    | refine e_hit rfl ?_ | refine e_miss rfl ?_
    | with_reducible refine ⟨by kernel_rfl, ?_⟩ | ((with_reducible refine c_grd ?_); (fail_if_success (refine c_lit true rfl rfl rfl ?_)); (fail_if_success (refine c_lit false rfl rfl rfl ?_)); refine c_split rfl rfl (fun _ => ?_) (fun _ => ?_)))
  refine td_seq2 ?_
  repeat' (first
    | refine td_last ?_
    | with_reducible (first | refine t_seq ?_ | refine t_region ?_ | refine c_nil ?_ | refine n_then ?_ | refine t_ret ?_ | refine t_skip ?_ | refine t_exit ?_ | refine t_block ?_ | refine n_block ?_ | refine e_then ?_ | refine x_then ?_ | refine x_block ?_ | refine t_draw ?_)
    | refine r_val rfl rfl True.intro ?_ | refine r_gskip rfl rfl rfl ?_ | refine r_gskip2 rfl rfl rfl ?_ | refine r_gval rfl rfl rfl rfl True.intro ?_
    | refine t_true rfl ?_ | refine t_false rfl ?_
    | ((first | refine t_cond_d rfl ?_ ?_ | refine t_cond_i rfl ?_ ?_ | refine t_cond_j rfl ?_ ?_ | refine t_cond_s rfl ?_ ?_ | refine t_cond_n rfl ?_ ?_ | refine t_cond rfl ?_ ?_ | refine c_split_d rfl rfl ?_ ?_ | refine c_split_i rfl rfl ?_ ?_ | refine c_split_j rfl rfl ?_ ?_ | refine c_split_s rfl rfl ?_ ?_ | refine c_split_n rfl rfl ?_ ?_) <;> intro <;> try (first | (rename_i hz; exact Bool.noConfusion (show true = false from hz)) | (rename_i hz; exact Bool.noConfusion (show false = true from hz)) | (exfalso; omega)))
    | ((first | refine r_val rfl rfl ?_ ?_ | refine r_gval rfl rfl rfl rfl ?_ ?_ | refine r_obj rfl rfl ?_ ?_ | refine r_sto rfl ?_ ?_ | refine r_gobj rfl rfl rfl rfl ?_ ?_); focus (first | omega | exact Nat.le_of_ble_eq_true rfl | ((repeat first | rw [wrap_u8] | rw [IntKind.wrap_i64] | rw [IntKind.wrap_i32] | rw [wrap_u32'] | rw [wrap_u64']); (repeat' refine And.intro ?_ ?_) <;> omega) | ((repeat' refine And.intro ?_ ?_) <;> first | omega | rfl | exact Nat.le_refl _ | exact Nat.le_of_ble_eq_true rfl | exact bytesF_one _) | (simp_all; done) | (simp_all; omega)))
    | refine e_hit rfl ?_ | refine e_miss rfl ?_
    | with_reducible refine ⟨by kernel_rfl, ?_⟩ | refine n_raw ⟨?_⟩ | refine x_raw ⟨?_⟩ | ((with_reducible refine c_grd ?_); (fail_if_success (refine c_lit true rfl rfl rfl ?_)); (fail_if_success (refine c_lit false rfl rfl rfl ?_)); refine c_split rfl rfl (fun _ => ?_) (fun _ => ?_)))
  all_goals exact fun a w hr => ⟨.inl rfl, rfl, _, _, hr, rfl, rfl, rfl, trivial⟩

set_option maxRecDepth 100000 in
set_option maxHeartbeats 1000000 in
theorem told0_ctr (k : Int) (y n : Bool) (d : List UInt8) (e : Int) (t : List UInt8) (l : List J) (ks : List (List UInt8)) : CtrD Tryd.prog 24 [.pv 2 0, .pv 3 0, .pv 4 0] (pObj (.i .i64 k) (.b y) (.b n) (.s d) (.i .i64 e) (.s t) (.sl 8 l.length (jF l)) (.sl 1 ks.length (txF ks)) q z) .returning (pObj (.i .i64 k) (.b y) (.b n) (.s d) (.i .i64 e) (.s t) (.sl 8 l.length (jF l)) (.sl 1 ks.length (txF ks)) q z) .returning := by
  refine CtrD.of_TS Tryd.func24 rfl Tryd.ntmps24 Tryd.results24 (by decide) rfl rfl rfl fun X c₀ cs hL hX hdf hu => ?_
  refine ts_recover (c₀ :: cs) .nilIface rfl (by
    have h0 : recoverD (c₀ :: cs) = none := by
      simp only [recoverD, hu]
    rw [h0]
    exact ⟨rfl, rfl⟩) rfl ?_
  repeat' (first
    | refine r_assert0 Tryd.underlying55 rfl rfl rfl ?_ | refine r_varAt 60 rfl rfl rfl rfl rfl ?_
    | with_reducible (first | refine t_seq ?_ | refine t_region ?_ | refine c_nil ?_ | refine n_then ?_ | refine t_ret ?_ | refine t_skip ?_ | refine t_exit ?_ | refine t_block ?_ | refine n_block ?_ | refine e_then ?_ | refine x_then ?_ | refine x_block ?_ | refine t_draw ?_)
    | refine r_val rfl rfl True.intro ?_ | refine r_gskip rfl rfl rfl ?_ | refine r_gskip2 rfl rfl rfl ?_ | refine r_gval rfl rfl rfl rfl True.intro ?_
    | refine t_true rfl ?_ | refine t_false rfl ?_
    | ((first | refine t_cond_d rfl ?_ ?_ | refine t_cond_i rfl ?_ ?_ | refine t_cond_j rfl ?_ ?_ | refine t_cond_s rfl ?_ ?_ | refine t_cond_n rfl ?_ ?_ | refine t_cond rfl ?_ ?_ | refine c_split_d rfl rfl ?_ ?_ | refine c_split_i rfl rfl ?_ ?_ | refine c_split_j rfl rfl ?_ ?_ | refine c_split_s rfl rfl ?_ ?_ | refine c_split_n rfl rfl ?_ ?_) <;> intro <;> try (first | (rename_i hz; exact Bool.noConfusion (show true = false from hz)) | (rename_i hz; exact Bool.noConfusion (show false = true from hz)) | (exfalso; omega)))
    | ((first | refine r_val rfl rfl ?_ ?_ | refine r_gval rfl rfl rfl rfl ?_ ?_ | refine r_obj rfl rfl ?_ ?_ | refine r_sto rfl ?_ ?_ | refine r_gobj rfl rfl rfl rfl ?_ ?_); focus (first | omega | exact Nat.le_of_ble_eq_true rfl | ((repeat first | rw [wrap_u8] | rw [IntKind.wrap_i64] | rw [IntKind.wrap_i32] | rw [wrap_u32'] | rw [wrap_u64']); (repeat' refine And.intro ?_ ?_) <;> omega) | ((repeat' refine And.intro ?_ ?_) <;> first | omega | rfl | exact Nat.le_refl _ | exact Nat.le_of_ble_eq_true rfl | exact bytesF_one _) | (simp_all; done) | (simp_all; omega)))
    | refine e_hit rfl ?_ | refine e_miss rfl ?_
    | with_reducible refine ⟨by kernel_rfl, ?_⟩ | ((with_reducible refine c_grd ?_); (fail_if_success (refine c_lit true rfl rfl rfl ?_)); (fail_if_success (refine c_lit false rfl rfl rfl ?_)); refine c_split rfl rfl (fun _ => ?_) (fun _ => ?_)))
  refine td_seq2 ?_
  repeat' (first
    | refine td_last ?_
    | with_reducible (first | refine t_seq ?_ | refine t_region ?_ | refine c_nil ?_ | refine n_then ?_ | refine t_ret ?_ | refine t_skip ?_ | refine t_exit ?_ | refine t_block ?_ | refine n_block ?_ | refine e_then ?_ | refine x_then ?_ | refine x_block ?_ | refine t_draw ?_)
    | refine r_val rfl rfl True.intro ?_ | refine r_gskip rfl rfl rfl ?_ | refine r_gskip2 rfl rfl rfl ?_ | refine r_gval rfl rfl rfl rfl True.intro ?_
    | refine t_true rfl ?_ | refine t_false rfl ?_
    | ((first | refine t_cond_d rfl ?_ ?_ | refine t_cond_i rfl ?_ ?_ | refine t_cond_j rfl ?_ ?_ | refine t_cond_s rfl ?_ ?_ | refine t_cond_n rfl ?_ ?_ | refine t_cond rfl ?_ ?_ | refine c_split_d rfl rfl ?_ ?_ | refine c_split_i rfl rfl ?_ ?_ | refine c_split_j rfl rfl ?_ ?_ | refine c_split_s rfl rfl ?_ ?_ | refine c_split_n rfl rfl ?_ ?_) <;> intro <;> try (first | (rename_i hz; exact Bool.noConfusion (show true = false from hz)) | (rename_i hz; exact Bool.noConfusion (show false = true from hz)) | (exfalso; omega)))
    | ((first | refine r_val rfl rfl ?_ ?_ | refine r_gval rfl rfl rfl rfl ?_ ?_ | refine r_obj rfl rfl ?_ ?_ | refine r_sto rfl ?_ ?_ | refine r_gobj rfl rfl rfl rfl ?_ ?_); focus (first | omega | exact Nat.le_of_ble_eq_true rfl | ((repeat first | rw [wrap_u8] | rw [IntKind.wrap_i64] | rw [IntKind.wrap_i32] | rw [wrap_u32'] | rw [wrap_u64']); (repeat' refine And.intro ?_ ?_) <;> omega) | ((repeat' refine And.intro ?_ ?_) <;> first | omega | rfl | exact Nat.le_refl _ | exact Nat.le_of_ble_eq_true rfl | exact bytesF_one _) | (simp_all; done) | (simp_all; omega)))
    | refine e_hit rfl ?_ | refine e_miss rfl ?_
    | with_reducible refine ⟨by kernel_rfl, ?_⟩ | refine n_raw ⟨?_⟩ | refine x_raw ⟨?_⟩ | ((with_reducible refine c_grd ?_); (fail_if_success (refine c_lit true rfl rfl rfl ?_)); (fail_if_success (refine c_lit false rfl rfl rfl ?_)); refine c_split rfl rfl (fun _ => ?_) (fun _ => ?_)))
  all_goals exact fun a w hr => ⟨.inl rfl, by
    cases c₀
    cases hu
    rfl, _, _, hr, rfl, rfl, rfl, trivial⟩
end

def parD (r : J × Nat × Int) : D := .tu [.ag (jC r.1), .i .i64 r.2.1, .i .i64 r.2.2]
theorem par_weak0 (p e : Int) : Weak (.tu [.ag j0C, .i .i64 p, .i .i64 e]) (.tu [.ag (jC j0), .i .i64 p, .i .i64 e]) := .tu3 (lit_weak 0 false) (.refl _) (.refl _)
set_option maxRecDepth 100000 in
set_option maxHeartbeats 4000000 in
theorem parse_jctr (s : List UInt8) (hs : s.length ≤ 4194304) : Ctr Tryd.prog 8 [.s s] (parD (jparse s)) := by
  refine r_funD Tryd.func8 rfl Tryd.ntmps8 rfl fun X hL hX hdf hr0 => ?_
  have hfree : (parD (jparse s)).free = true := by
    unfold parD
    generalize jparse s = r
    obtain ⟨⟨k, y, n, d, e, t, l, ks⟩, p, c⟩ := r
    rw [jC_mk]
    rfl
  unfold jparse at *
  by_cases hb : 1048576 < s.length
  · rw [if_pos hb] at *
    repeat' (first
      | refine td_defer [2, 3, 4] hdf hr0 rfl rfl ?_ | refine td_seq2 ?_ | refine td_last ?_
      | with_reducible (first | refine t_seq ?_ | refine t_region ?_ | refine c_nil ?_ | refine n_then ?_ | refine t_ret ?_ | refine t_skip ?_ | refine t_exit ?_ | refine t_block ?_ | refine n_block ?_ | refine e_then ?_ | refine x_then ?_ | refine x_block ?_ | refine t_draw ?_)
      | refine r_val rfl rfl True.intro ?_ | refine r_gskip rfl rfl rfl ?_ | refine r_gskip2 rfl rfl rfl ?_ | refine r_gval rfl rfl rfl rfl True.intro ?_
      | refine t_true rfl ?_ | refine t_false rfl ?_
      | ((first | refine t_cond_d rfl ?_ ?_ | refine t_cond_i rfl ?_ ?_ | refine t_cond_j rfl ?_ ?_ | refine t_cond_s rfl ?_ ?_ | refine t_cond_n rfl ?_ ?_ | refine t_cond rfl ?_ ?_ | refine c_split_d rfl rfl ?_ ?_ | refine c_split_i rfl rfl ?_ ?_ | refine c_split_j rfl rfl ?_ ?_ | refine c_split_s rfl rfl ?_ ?_ | refine c_split_n rfl rfl ?_ ?_) <;> intro <;> try (first | (rename_i hz; exact Bool.noConfusion (show true = false from hz)) | (rename_i hz; exact Bool.noConfusion (show false = true from hz)) | (exfalso; omega)))
      | ((first | refine r_val rfl rfl ?_ ?_ | refine r_gval rfl rfl rfl rfl ?_ ?_ | refine r_obj rfl rfl ?_ ?_ | refine r_sto rfl ?_ ?_ | refine r_gobj rfl rfl rfl rfl ?_ ?_); focus (first | omega | exact Nat.le_of_ble_eq_true rfl | ((repeat first | rw [wrap_u8] | rw [IntKind.wrap_i64] | rw [IntKind.wrap_i32] | rw [wrap_u32'] | rw [wrap_u64']); (repeat' refine And.intro ?_ ?_) <;> omega) | ((repeat' refine And.intro ?_ ?_) <;> first | omega | rfl | exact Nat.le_refl _ | exact Nat.le_of_ble_eq_true rfl | exact bytesF_one _) | (simp_all; done) | (simp_all; omega)))
      | refine e_hit rfl ?_ | refine e_miss rfl ?_
      | with_reducible refine ⟨by kernel_rfl, ?_⟩ | refine n_raw ⟨?_⟩ | refine x_raw ⟨?_⟩ | ((with_reducible refine c_grd ?_); (fail_if_success (refine c_lit true rfl rfl rfl ?_)); (fail_if_success (refine c_lit false rfl rfl rfl ?_)); refine c_split rfl rfl (fun _ => ?_) (fun _ => ?_)))
    · exact fun a w hr => leave_now hdf hr Tryd.results8 rfl (par_weak0 0 5) hfree
  · rw [if_neg hb] at *
    have v1 := value_jctr s (by omega) 64 (by decide) 0 (Nat.zero_le _)
    have hvo := jval_ok s 64 0
    cases hv : jval s 64 0 with
    | inr e =>
      obtain ⟨p, e⟩ := e
      rw [hv] at v1 hfree
      repeat' (first
        | refine td_defer [2, 3, 4] hdf hr0 rfl rfl ?_ | refine td_seq2 ?_ | refine td_last ?_
        | with_reducible (first | refine t_seq ?_ | refine t_region ?_ | refine c_nil ?_ | refine n_then ?_ | refine t_ret ?_ | refine t_skip ?_ | refine t_exit ?_ | refine t_block ?_ | refine n_block ?_ | refine e_then ?_ | refine x_then ?_ | refine x_block ?_ | refine t_draw ?_)
        | refine r_val rfl rfl True.intro ?_ | refine r_gskip rfl rfl rfl ?_ | refine r_gskip2 rfl rfl rfl ?_ | refine r_gval rfl rfl rfl rfl True.intro ?_
        | refine t_true rfl ?_ | refine t_false rfl ?_
        | ((first | refine t_cond_d rfl ?_ ?_ | refine t_cond_i rfl ?_ ?_ | refine t_cond_j rfl ?_ ?_ | refine t_cond_s rfl ?_ ?_ | refine t_cond_n rfl ?_ ?_ | refine t_cond rfl ?_ ?_ | refine c_split_d rfl rfl ?_ ?_ | refine c_split_i rfl rfl ?_ ?_ | refine c_split_j rfl rfl ?_ ?_ | refine c_split_s rfl rfl ?_ ?_ | refine c_split_n rfl rfl ?_ ?_) <;> intro <;> try (first | (rename_i hz; exact Bool.noConfusion (show true = false from hz)) | (rename_i hz; exact Bool.noConfusion (show false = true from hz)) | (exfalso; omega)))
        | ((first | refine r_val rfl rfl ?_ ?_ | refine r_gval rfl rfl rfl rfl ?_ ?_ | refine r_obj rfl rfl ?_ ?_ | refine r_sto rfl ?_ ?_ | refine r_gobj rfl rfl rfl rfl ?_ ?_); focus (first | omega | exact Nat.le_of_ble_eq_true rfl | ((repeat first | rw [wrap_u8] | rw [IntKind.wrap_i64] | rw [IntKind.wrap_i32] | rw [wrap_u32'] | rw [wrap_u64']); (repeat' refine And.intro ?_ ?_) <;> omega) | ((repeat' refine And.intro ?_ ?_) <;> first | omega | rfl | exact Nat.le_refl _ | exact Nat.le_of_ble_eq_true rfl | exact bytesF_one _) | (simp_all; done) | (simp_all; omega)))
        | refine e_hit rfl ?_ | refine e_miss rfl ?_
        | with_reducible refine ⟨by kernel_rfl, ?_⟩ | refine n_raw ⟨?_⟩ | refine x_raw ⟨?_⟩ | ((with_reducible refine c_grd ?_); (fail_if_success (refine c_lit true rfl rfl rfl ?_)); (fail_if_success (refine c_lit false rfl rfl rfl ?_)); refine c_split rfl rfl (fun _ => ?_) (fun _ => ?_)))
      intro X1 vs hput
      repeat' (first
        | refine td_seq2 ?_ | refine td_last ?_ | (refine t_pan (id := 5) 1 ?_; dsimp only [splitOp]) | refine p_lend1 13 rfl Tryd.call25 rfl rfl rfl rfl v1 ?_
        | with_reducible (first | refine t_seq ?_ | refine t_region ?_ | refine c_nil ?_ | refine n_then ?_ | refine t_ret ?_ | refine t_skip ?_ | refine t_exit ?_ | refine t_block ?_ | refine n_block ?_ | refine e_then ?_ | refine x_then ?_ | refine x_block ?_ | refine t_draw ?_)
        | refine r_val rfl rfl True.intro ?_ | refine r_gskip rfl rfl rfl ?_ | refine r_gskip2 rfl rfl rfl ?_ | refine r_gval rfl rfl rfl rfl True.intro ?_
        | refine t_true rfl ?_ | refine t_false rfl ?_
        | ((first | refine t_cond_d rfl ?_ ?_ | refine t_cond_i rfl ?_ ?_ | refine t_cond_j rfl ?_ ?_ | refine t_cond_s rfl ?_ ?_ | refine t_cond_n rfl ?_ ?_ | refine t_cond rfl ?_ ?_ | refine c_split_d rfl rfl ?_ ?_ | refine c_split_i rfl rfl ?_ ?_ | refine c_split_j rfl rfl ?_ ?_ | refine c_split_s rfl rfl ?_ ?_ | refine c_split_n rfl rfl ?_ ?_) <;> intro <;> try (first | (rename_i hz; exact Bool.noConfusion (show true = false from hz)) | (rename_i hz; exact Bool.noConfusion (show false = true from hz)) | (exfalso; omega)))
        | ((first | refine r_val rfl rfl ?_ ?_ | refine r_gval rfl rfl rfl rfl ?_ ?_ | refine r_obj rfl rfl ?_ ?_ | refine r_sto rfl ?_ ?_ | refine r_gobj rfl rfl rfl rfl ?_ ?_); focus (first | omega | exact Nat.le_of_ble_eq_true rfl | ((repeat first | rw [wrap_u8] | rw [IntKind.wrap_i64] | rw [IntKind.wrap_i32] | rw [wrap_u32'] | rw [wrap_u64']); (repeat' refine And.intro ?_ ?_) <;> omega) | ((repeat' refine And.intro ?_ ?_) <;> first | omega | rfl | exact Nat.le_refl _ | exact Nat.le_of_ble_eq_true rfl | exact bytesF_one _) | (simp_all; done) | (simp_all; omega)))
        | refine e_hit rfl ?_ | refine e_miss rfl ?_
        | with_reducible refine ⟨by kernel_rfl, ?_⟩ | refine p_then ?_ | refine p_block ?_ | refine p_raw ⟨?_⟩ | ((with_reducible refine c_grd ?_); (fail_if_success (refine c_lit true rfl rfl rfl ?_)); (fail_if_success (refine c_lit false rfl rfl rfl ?_)); refine c_split rfl rfl (fun _ => ?_) (fun _ => ?_)))
      exact fun a w hr => (end_put hput Tryd.call24 (told_ctr p e) (fun h => by cases h) rfl ⟨rfl, rfl, rfl, trivial⟩ rfl rfl (by decide) rfl rfl hr Tryd.results8 _ (fO_cons3 _ 2 3 4 _ _ _ (by decide) (by decide) (by decide)) rfl (par_weak0 p e) hfree)
    | inl r =>
      obtain ⟨x, m⟩ := r
      rw [hv] at v1 hfree
      obtain ⟨k, y, n, d, e, t, l, ks⟩ := x
      have v1' : CtrO Tryd.prog 25 [.pv 13 0, .i .i64 ((64 : Nat) : Int)] (rdr s 0) (.ag [.i .i64 k, .b y, .b n, .s d, .i .i64 e, .s t, .sl 8 l.length (jF l), .sl 1 ks.length (txF ks)]) (rdr s m) := by
        rw [← jC_mk]
        exact v1
      have hml : m ≤ s.length := (hvo _ _ (Nat.zero_le _) hv).2
      have s1 := jskip_ctr s m (by omega) hml
      have hsk := skN_le hml
      clear v1 hvo hv
      dsimp only at hfree
      show TD _ _ _ _ _ _ (bodyPostD _ _ (Fin _ (parD (if skN s m < s.length then (j0, skN s m, 3) else (.mk k y n d e t l ks, s.length, 0)))))
      by_cases hq : skN s m < s.length
      · rw [if_pos hq] at hfree ⊢
        have f1 := jfail_ctr (skN s m) 3
        repeat' (first
          | refine td_defer [2, 3, 4] hdf hr0 rfl rfl ?_ | refine td_seq2 ?_ | refine td_last ?_
          | with_reducible (first | refine t_seq ?_ | refine t_region ?_ | refine c_nil ?_ | refine n_then ?_ | refine t_ret ?_ | refine t_skip ?_ | refine t_exit ?_ | refine t_block ?_ | refine n_block ?_ | refine e_then ?_ | refine x_then ?_ | refine x_block ?_ | refine t_draw ?_)
          | refine r_val rfl rfl True.intro ?_ | refine r_gskip rfl rfl rfl ?_ | refine r_gskip2 rfl rfl rfl ?_ | refine r_gval rfl rfl rfl rfl True.intro ?_
          | refine t_true rfl ?_ | refine t_false rfl ?_
          | ((first | refine t_cond_d rfl ?_ ?_ | refine t_cond_i rfl ?_ ?_ | refine t_cond_j rfl ?_ ?_ | refine t_cond_s rfl ?_ ?_ | refine t_cond_n rfl ?_ ?_ | refine t_cond rfl ?_ ?_ | refine c_split_d rfl rfl ?_ ?_ | refine c_split_i rfl rfl ?_ ?_ | refine c_split_j rfl rfl ?_ ?_ | refine c_split_s rfl rfl ?_ ?_ | refine c_split_n rfl rfl ?_ ?_) <;> intro <;> try (first | (rename_i hz; exact Bool.noConfusion (show true = false from hz)) | (rename_i hz; exact Bool.noConfusion (show false = true from hz)) | (exfalso; omega)))
          | ((first | refine r_val rfl rfl ?_ ?_ | refine r_gval rfl rfl rfl rfl ?_ ?_ | refine r_obj rfl rfl ?_ ?_ | refine r_sto rfl ?_ ?_ | refine r_gobj rfl rfl rfl rfl ?_ ?_); focus (first | omega | exact Nat.le_of_ble_eq_true rfl | ((repeat first | rw [wrap_u8] | rw [IntKind.wrap_i64] | rw [IntKind.wrap_i32] | rw [wrap_u32'] | rw [wrap_u64']); (repeat' refine And.intro ?_ ?_) <;> omega) | ((repeat' refine And.intro ?_ ?_) <;> first | omega | rfl | exact Nat.le_refl _ | exact Nat.le_of_ble_eq_true rfl | exact bytesF_one _) | (simp_all; done) | (simp_all; omega)))
          | refine e_hit rfl ?_ | refine e_miss rfl ?_
          | with_reducible refine ⟨by kernel_rfl, ?_⟩ | refine n_raw ⟨?_⟩ | refine x_raw ⟨?_⟩ | ((with_reducible refine c_grd ?_); (fail_if_success (refine c_lit true rfl rfl rfl ?_)); (fail_if_success (refine c_lit false rfl rfl rfl ?_)); refine c_split rfl rfl (fun _ => ?_) (fun _ => ?_)))
        intro X1 vs hput
        repeat' (first
          | refine td_seq2 ?_ | refine td_last ?_ | (refine t_pan (id := 8) 4 ?_; dsimp only [splitOp]) | refine r_lend1 (f := 25) 13 rfl rfl Tryd.call25 rfl rfl rfl rfl rfl v1' ?_ | refine r_lend1 (f := 26) 13 rfl rfl Tryd.call26 rfl rfl rfl rfl rfl s1 ?_ | refine p_call rfl Tryd.call27 rfl f1 ?_
          | with_reducible (first | refine t_seq ?_ | refine t_region ?_ | refine c_nil ?_ | refine n_then ?_ | refine t_ret ?_ | refine t_skip ?_ | refine t_exit ?_ | refine t_block ?_ | refine n_block ?_ | refine e_then ?_ | refine x_then ?_ | refine x_block ?_ | refine t_draw ?_)
          | refine r_val rfl rfl True.intro ?_ | refine r_gskip rfl rfl rfl ?_ | refine r_gskip2 rfl rfl rfl ?_ | refine r_gval rfl rfl rfl rfl True.intro ?_
          | refine t_true rfl ?_ | refine t_false rfl ?_
          | ((first | refine t_cond_d rfl ?_ ?_ | refine t_cond_i rfl ?_ ?_ | refine t_cond_j rfl ?_ ?_ | refine t_cond_s rfl ?_ ?_ | refine t_cond_n rfl ?_ ?_ | refine t_cond rfl ?_ ?_ | refine c_split_d rfl rfl ?_ ?_ | refine c_split_i rfl rfl ?_ ?_ | refine c_split_j rfl rfl ?_ ?_ | refine c_split_s rfl rfl ?_ ?_ | refine c_split_n rfl rfl ?_ ?_) <;> intro <;> try (first | (rename_i hz; exact Bool.noConfusion (show true = false from hz)) | (rename_i hz; exact Bool.noConfusion (show false = true from hz)) | (exfalso; omega)))
          | ((first | refine r_val rfl rfl ?_ ?_ | refine r_gval rfl rfl rfl rfl ?_ ?_ | refine r_obj rfl rfl ?_ ?_ | refine r_sto rfl ?_ ?_ | refine r_gobj rfl rfl rfl rfl ?_ ?_); focus (first | omega | exact Nat.le_of_ble_eq_true rfl | ((repeat first | rw [wrap_u8] | rw [IntKind.wrap_i64] | rw [IntKind.wrap_i32] | rw [wrap_u32'] | rw [wrap_u64']); (repeat' refine And.intro ?_ ?_) <;> omega) | ((repeat' refine And.intro ?_ ?_) <;> first | omega | rfl | exact Nat.le_refl _ | exact Nat.le_of_ble_eq_true rfl | exact bytesF_one _) | (simp_all; done) | (simp_all; omega)))
          | refine e_hit rfl ?_ | refine e_miss rfl ?_
          | with_reducible refine ⟨by kernel_rfl, ?_⟩ | refine p_then ?_ | refine p_block ?_ | refine p_raw ⟨?_⟩ | ((with_reducible refine c_grd ?_); (fail_if_success (refine c_lit true rfl rfl rfl ?_)); (fail_if_success (refine c_lit false rfl rfl rfl ?_)); refine c_split rfl rfl (fun _ => ?_) (fun _ => ?_)))
        exact fun a w hr => (end_put hput Tryd.call24 (told_ctr (skN s m) 3) (fun h => by cases h) rfl ⟨rfl, rfl, rfl, trivial⟩ rfl rfl (by decide) rfl rfl hr Tryd.results8 _ (fO_cons3 _ 2 3 4 _ _ _ (by decide) (by decide) (by decide)) rfl (par_weak0 (skN s m) 3) hfree)
      · rw [if_neg hq] at hfree ⊢
        unfold parD at hfree ⊢
        dsimp only at hfree ⊢
        rw [jC_mk] at hfree ⊢
        repeat' (first
          | refine td_defer [2, 3, 4] hdf hr0 rfl rfl ?_ | refine td_seq2 ?_ | refine td_last ?_
          | with_reducible (first | refine t_seq ?_ | refine t_region ?_ | refine c_nil ?_ | refine n_then ?_ | refine t_ret ?_ | refine t_skip ?_ | refine t_exit ?_ | refine t_block ?_ | refine n_block ?_ | refine e_then ?_ | refine x_then ?_ | refine x_block ?_ | refine t_draw ?_)
          | refine r_val rfl rfl True.intro ?_ | refine r_gskip rfl rfl rfl ?_ | refine r_gskip2 rfl rfl rfl ?_ | refine r_gval rfl rfl rfl rfl True.intro ?_
          | refine t_true rfl ?_ | refine t_false rfl ?_
          | ((first | refine t_cond_d rfl ?_ ?_ | refine t_cond_i rfl ?_ ?_ | refine t_cond_j rfl ?_ ?_ | refine t_cond_s rfl ?_ ?_ | refine t_cond_n rfl ?_ ?_ | refine t_cond rfl ?_ ?_ | refine c_split_d rfl rfl ?_ ?_ | refine c_split_i rfl rfl ?_ ?_ | refine c_split_j rfl rfl ?_ ?_ | refine c_split_s rfl rfl ?_ ?_ | refine c_split_n rfl rfl ?_ ?_) <;> intro <;> try (first | (rename_i hz; exact Bool.noConfusion (show true = false from hz)) | (rename_i hz; exact Bool.noConfusion (show false = true from hz)) | (exfalso; omega)))
          | ((first | refine r_val rfl rfl ?_ ?_ | refine r_gval rfl rfl rfl rfl ?_ ?_ | refine r_obj rfl rfl ?_ ?_ | refine r_sto rfl ?_ ?_ | refine r_gobj rfl rfl rfl rfl ?_ ?_); focus (first | omega | exact Nat.le_of_ble_eq_true rfl | ((repeat first | rw [wrap_u8] | rw [IntKind.wrap_i64] | rw [IntKind.wrap_i32] | rw [wrap_u32'] | rw [wrap_u64']); (repeat' refine And.intro ?_ ?_) <;> omega) | ((repeat' refine And.intro ?_ ?_) <;> first | omega | rfl | exact Nat.le_refl _ | exact Nat.le_of_ble_eq_true rfl | exact bytesF_one _) | (simp_all; done) | (simp_all; omega)))
          | refine e_hit rfl ?_ | refine e_miss rfl ?_
          | with_reducible refine ⟨by kernel_rfl, ?_⟩ | refine n_raw ⟨?_⟩ | refine x_raw ⟨?_⟩ | ((with_reducible refine c_grd ?_); (fail_if_success (refine c_lit true rfl rfl rfl ?_)); (fail_if_success (refine c_lit false rfl rfl rfl ?_)); refine c_split rfl rfl (fun _ => ?_) (fun _ => ?_)))
        intro X1 vs hput
        repeat' (first
          | refine td_seq2 ?_ | refine td_last ?_ | refine r_lend1 (f := 25) 13 rfl rfl Tryd.call25 rfl rfl rfl rfl rfl v1' ?_ | refine r_lend1 (f := 26) 13 rfl rfl Tryd.call26 rfl rfl rfl rfl rfl s1 ?_
          | with_reducible (first | refine t_seq ?_ | refine t_region ?_ | refine c_nil ?_ | refine n_then ?_ | refine t_ret ?_ | refine t_skip ?_ | refine t_exit ?_ | refine t_block ?_ | refine n_block ?_ | refine e_then ?_ | refine x_then ?_ | refine x_block ?_ | refine t_draw ?_)
          | refine r_val rfl rfl True.intro ?_ | refine r_gskip rfl rfl rfl ?_ | refine r_gskip2 rfl rfl rfl ?_ | refine r_gval rfl rfl rfl rfl True.intro ?_
          | refine t_true rfl ?_ | refine t_false rfl ?_
          | ((first | refine t_cond_d rfl ?_ ?_ | refine t_cond_i rfl ?_ ?_ | refine t_cond_j rfl ?_ ?_ | refine t_cond_s rfl ?_ ?_ | refine t_cond_n rfl ?_ ?_ | refine t_cond rfl ?_ ?_ | refine c_split_d rfl rfl ?_ ?_ | refine c_split_i rfl rfl ?_ ?_ | refine c_split_j rfl rfl ?_ ?_ | refine c_split_s rfl rfl ?_ ?_ | refine c_split_n rfl rfl ?_ ?_) <;> intro <;> try (first | (rename_i hz; exact Bool.noConfusion (show true = false from hz)) | (rename_i hz; exact Bool.noConfusion (show false = true from hz)) | (exfalso; omega)))
          | ((first | refine r_val rfl rfl ?_ ?_ | refine r_gval rfl rfl rfl rfl ?_ ?_ | refine r_obj rfl rfl ?_ ?_ | refine r_sto rfl ?_ ?_ | refine r_gobj rfl rfl rfl rfl ?_ ?_); focus (first | omega | exact Nat.le_of_ble_eq_true rfl | ((repeat first | rw [wrap_u8] | rw [IntKind.wrap_i64] | rw [IntKind.wrap_i32] | rw [wrap_u32'] | rw [wrap_u64']); (repeat' refine And.intro ?_ ?_) <;> omega) | ((repeat' refine And.intro ?_ ?_) <;> first | omega | rfl | exact Nat.le_refl _ | exact Nat.le_of_ble_eq_true rfl | exact bytesF_one _) | (simp_all; done) | (simp_all; omega)))
          | refine e_hit rfl ?_ | refine e_miss rfl ?_
          | with_reducible refine ⟨by kernel_rfl, ?_⟩ | refine n_raw ⟨?_⟩ | refine x_raw ⟨?_⟩ | ((with_reducible refine c_grd ?_); (fail_if_success (refine c_lit true rfl rfl rfl ?_)); (fail_if_success (refine c_lit false rfl rfl rfl ?_)); refine c_split rfl rfl (fun _ => ?_) (fun _ => ?_)))
        exact fun a w hr => (end_put hput Tryd.call24 (told0_ctr k y n d e t l ks) (fun h => by cases h) rfl ⟨rfl, rfl, rfl, trivial⟩ rfl rfl (by decide) rfl rfl hr Tryd.results8 _ (fO_cons3 _ 2 3 4 _ _ _ (by decide) (by decide) (by decide)) rfl (.refl _) hfree)

end Go.Proofs.YtbegohehjkjnmaaDoor.Flow

/- JSON: the document's Parse, and Same. -/
namespace Go.Proofs.YtbegohehjkjnmaaDoor.Flow
open Go

end Go.Proofs.YtbegohehjkjnmaaDoor.Flow

/- JSON: the document's Same. -/
namespace Go.Proofs.YtbegohehjkjnmaaDoor.Flow
open Go

namespace J
def kind : J → Int | mk k _ _ _ _ _ _ _ => k
def yes : J → Bool | mk _ y _ _ _ _ _ _ => y
def neg : J → Bool | mk _ _ n _ _ _ _ _ => n
def dig : J → List UInt8 | mk _ _ _ d _ _ _ _ => d
def exp : J → Int | mk _ _ _ _ e _ _ _ => e
def text : J → List UInt8 | mk _ _ _ _ _ t _ _ => t
def list : J → List J | mk _ _ _ _ _ _ l _ => l
def keys : J → List (List UInt8) | mk _ _ _ _ _ _ _ ks => ks
end J
/-- A value's cells, by its parts. -/
def jP (x : J) : List D := [.i .i64 x.kind, .b x.yes, .b x.neg, .s x.dig, .i .i64 x.exp, .s x.text, .sl 8 x.list.length (jF x.list), .sl 1 x.keys.length (txF x.keys)]
theorem jC_P (x : J) : jC x = jP x := by
  cases x
  rw [jC_mk]
  rfl
/-- A list's parts, by their parts. -/
def jG (l : List J) : Nat → List D := fun i => jP (l.getD i j0)
theorem jF_G (l : List J) : Weak (.sl 8 l.length (jF l)) (.sl 8 l.length (jG l)) := .sl _ _ _ _ (fun i hi => by
    rw [jF_at hi, jC_P]
    exact ⟨rfl, rfl⟩) fun i j hi hj => by
    rw [jF_at hi, jC_P]
    exact .refl _
def jQ (x : J) : List D := [.i .i64 x.kind, .b x.yes, .b x.neg, .s x.dig, .i .i64 x.exp, .s x.text, .sl 8 x.list.length (jG x.list), .sl 1 x.keys.length (txF x.keys)]
theorem jP_Q (x : J) : Weak (.ag (jP x)) (.ag (jQ x)) := .ag _ _ rfl fun j hj => match j, hj with
  | 0, _ => .refl _
  | 1, _ => .refl _
  | 2, _ => .refl _
  | 3, _ => .refl _
  | 4, _ => .refl _
  | 5, _ => .refl _
  | 6, _ => jF_G _
  | 7, _ => .refl _

mutual
/-- The same? -/
def sameJ : J → J → Bool
  | .mk k y n d e t l ks, .mk k' y' n' d' e' t' l' ks' => if k ≠ k' then false else if k = 1 then y == y' else if k = 2 then (n == n' && (d == d' && (e == e' && true))) else if k = 3 then t == t'
    else if k ≠ 4 ∧ k ≠ 5 then true else if l.length ≠ l'.length ∨ k = 5 ∧ ks.length ≠ ks'.length then false else if k = 5 ∧ ks ≠ ks' then false else sameL l l'
def sameL : List J → List J → Bool
  | [], _ => true
  | _ :: _, [] => false
  | x :: r, y :: r' => sameJ x y && sameL r r'
end
theorem sameL_bad : ∀ {l l' : List J} {i : Nat}, i < l.length → sameJ (l.getD i j0) (l'.getD i j0) = false → l.length = l'.length → sameL l l' = false
  | [], _, _, h, _, _ => by simp at h
  | _ :: _, [], _, _, _, h => by simp at h
  | x :: r, y :: r', 0, _, h2, _ => by
    rw [sameL]
    have h2 : sameJ x y = false := h2
    rw [h2]
    rfl
  | x :: r, y :: r', i + 1, h, h2, h3 => by
    rw [sameL, sameL_bad (l := r) (l' := r') (i := i) (by simpa using h) (by simpa using h2) (by simpa using h3), Bool.and_false]
theorem sameL_all : ∀ {l l' : List J}, (∀ i, i < l.length → sameJ (l.getD i j0) (l'.getD i j0) = true) → l.length = l'.length → sameL l l' = true
  | [], _, _, _ => by rw [sameL]
  | _ :: _, [], _, h => by simp at h
  | x :: r, y :: r', h, h3 => by
    rw [sameL, sameL_all (l := r) (l' := r') (fun i hi => by have := h (i + 1) (by simpa using hi); simpa using this) (by simpa using h3)]
    have h0 : sameJ x y = true := h 0 (by simp)
    rw [h0]
    rfl
mutual
theorem sameJ_refl : ∀ x : J, sameJ x x = true
  | .mk k y n d e t l ks => by
    rw [sameJ]
    have hl := sameL_refl l
    simp [hl]
theorem sameL_refl : ∀ l : List J, sameL l l = true
  | [] => by rw [sameL]
  | x :: r => by rw [sameL, sameJ_refl x, sameL_refl r]; rfl
end
mutual
/-- How many parts a value has. -/
def jw : J → Nat
  | .mk _ _ _ _ _ _ l ks => 1 + jwL l + ks.length
def jwL : List J → Nat
  | [] => 0
  | x :: r => jw x + jwL r
end
theorem jw_eq (x : J) : jw x = 1 + jwL x.list + x.keys.length := by
  cases x
  rw [jw]
  rfl
theorem jw_pos (x : J) : 1 ≤ jw x := by
  rw [jw_eq]
  omega
theorem jwL_len : ∀ l : List J, l.length ≤ jwL l
  | [] => Nat.zero_le _
  | x :: r => by
    have := jwL_len r
    have := jw_pos x
    rw [jwL, List.length_cons]
    omega
theorem jwL_at : ∀ {l : List J} {i : Nat}, i < l.length → jw (l.getD i j0) ≤ jwL l
  | [], _, h => by simp at h
  | x :: r, 0, _ => by
    rw [jwL]
    exact Nat.le_add_right _ _
  | x :: r, i + 1, h => by
    have := jwL_at (l := r) (i := i) (by simpa using h)
    rw [jwL]
    have e : (x :: r).getD (i + 1) j0 = r.getD i j0 := by simp
    rw [e]
    omega
theorem jwL_app : ∀ (l : List J) (x : J), jwL (l ++ [x]) = jwL l + jw x
  | [], x => by
    show jw x + 0 = 0 + jw x
    omega
  | y :: r, x => by
    rw [List.cons_append, jwL, jwL, jwL_app r x]
    omega
theorem txF_ext {l l' : List (List UInt8)} (h : l.length = l'.length) (h2 : ∀ i, i < l.length → l.getD i [] = l'.getD i []) : l = l' := by
  apply List.ext_getElem h
  intro i h3 h4
  have := h2 i h3
  simpa [List.getD_eq_getElem?_getD, h3, h4] using this

end Go.Proofs.YtbegohehjkjnmaaDoor.Flow

/- JSON: a text's value has no more parts than its text has bytes. -/
namespace Go.Proofs.YtbegohehjkjnmaaDoor.Flow
open Go

/-- Values have no more parts than bytes. -/
def ValW (s : List UInt8) (val : Nat → JR) : Prop := ∀ i x n, i ≤ s.length → val i = .inl (x, n) → jw x + i ≤ n
theorem jkeys_w {s : List UInt8} {mp : Bool} {ks ks' : List (List UInt8)} {i n : Nat} (hi : i ≤ s.length) (h : jkeys s mp i ks = .inl (ks', n)) : ks'.length + i ≤ ks.length + n := by
  unfold jkeys at h
  split at h
  · cases h1 : jkey s i ks with
    | inr e => rw [h1] at h; cases h
    | inl r =>
      obtain ⟨k, m⟩ := r
      rw [h1] at h
      have := jkey_ok hi h1
      cases h
      rw [List.length_append, List.length_singleton]
      omega
  · cases h
    exact Nat.le_refl _
theorem jgo_w {s : List UInt8} {val : Nat → JR} (hv : ValOk s val) (hw : ValW s val) {mp : Bool} : ∀ (m i : Nat) (l : List J) (ks : List (List UInt8)) (x : J) (n : Nat), s.length - i ≤ m → i ≤ s.length → jgo s val mp i l ks = .inl (x, n) → jw x + i ≤ jwL l + ks.length + n := by
  intro m
  induction m with
  | zero =>
    intro i l ks x n hm hi h
    rw [jgo_eq hv hi] at h
    cases h1 : jkeys s mp i ks with
    | inr e => rw [h1] at h; cases h
    | inl r =>
      obtain ⟨ks', i1⟩ := r
      rw [h1] at h
      have q1 := jkeys_ok hi h1
      dsimp only at h
      cases h2 : val i1 with
      | inr e => rw [h2] at h; cases h
      | inl r =>
        obtain ⟨y, i2⟩ := r
        have q2 := hv _ _ _ q1.2 h2
        omega
  | succ m ih =>
    intro i l ks x n hm hi h
    rw [jgo_eq hv hi] at h
    cases h1 : jkeys s mp i ks with
    | inr e => rw [h1] at h; cases h
    | inl r =>
      obtain ⟨ks', i1⟩ := r
      rw [h1] at h
      have q1 := jkeys_ok hi h1
      have w1 := jkeys_w hi h1
      dsimp only at h
      cases h2 : val i1 with
      | inr e => rw [h2] at h; cases h
      | inl r =>
        obtain ⟨y, i2⟩ := r
        rw [h2] at h
        have q2 := hv _ _ _ q1.2 h2
        have w2 := hw _ _ _ q1.2 h2
        have wa := jwL_app l y
        dsimp only at h
        cases h3 : jpeek s i2 with
        | inr e => rw [h3] at h; cases h
        | inl i3 =>
          rw [h3] at h
          have q3 := jpeek_ok q2.2 h3
          dsimp only at h
          split at h
          · cases h
            unfold manyV
            rw [jw]
            omega
          · split at h
            · have := ih _ _ _ _ _ (by omega) (by omega) h
              omega
            · cases h
theorem jmany_w {s : List UInt8} {val : Nat → JR} (hv : ValOk s val) (hw : ValW s val) {mp : Bool} {i n : Nat} {x : J} (hi : i < s.length) (h : jmany s val mp i = .inl (x, n)) : jw x + i ≤ n := by
  unfold jmany at h
  cases h1 : jpeek s (i + 1) with
  | inr e => rw [h1] at h; cases h
  | inl j =>
    rw [h1] at h
    have q := jpeek_ok hi h1
    dsimp only at h
    split at h
    · cases h
      show 1 + 0 + 0 + i ≤ j + 1
      omega
    · have := jgo_w hv hw _ _ _ _ _ _ (Nat.le_refl _) (by omega) h
      have e : jwL [] = 0 := rfl
      rw [e, List.length_nil] at this
      omega
theorem jval_w (s : List UInt8) : ∀ d, ValW s (jval s d) := by
  intro d
  induction d with
  | zero =>
    intro i x n hi h
    unfold jval at h
    split at h <;> cases h
  | succ d ih =>
    intro i x n hi h
    have hk := jval_ok s (d + 1) i x n hi h
    have lit : ∀ (k : Int) (y g : Bool) (dd : List UInt8) (e : Int) (t : List UInt8), jw (.mk k y g dd e t [] []) = 1 := fun _ _ _ _ _ _ => rfl
    unfold jval at h
    cases h1 : jpeek s i with
    | inr e => rw [h1] at h; cases h
    | inl j =>
      rw [h1] at h
      have q := jpeek_ok hi h1
      dsimp only at h
      unfold jword at h
      split at h
      · split at h <;> cases h
        have := lit 0 false false [] 0 []
        show 1 + i ≤ _
        omega
      · split at h
        · split at h <;> cases h
          show 1 + i ≤ _
          omega
        · split at h
          · split at h <;> cases h
            show 1 + i ≤ _
            omega
          · split at h
            · cases h2 : jtext s j with
              | inr e => rw [h2] at h; cases h
              | inl r =>
                rw [h2] at h
                cases h
                show 1 + i ≤ _
                omega
            · split at h
              · have := jmany_w (jval_ok s d) ih q.2.1 h
                omega
              · split at h
                · have := jmany_w (jval_ok s d) ih q.2.1 h
                  omega
                · unfold jnum at h
                  split at h
                  · cases h
                    show 1 + i ≤ _
                    omega
                  · cases h

end Go.Proofs.YtbegohehjkjnmaaDoor.Flow

/- JSON: the law's example, and JsonParses' function. -/
namespace Go.Proofs.YtbegohehjkjnmaaDoor.Flow
open Go

theorem Ctr.weakR {P : Program} {f : FuncId} {args : List D} {d d' : D} (h : Ctr P f args d) (hw : Weak d d') : Ctr P f args d' := by
  intro w S vs hv hg hn hr
  refine (h w S vs hv hg hn hr).mono ?_
  rintro e w' ⟨v, S', h1, h2, h3⟩
  exact ⟨v, S', h1, h2.weak hw, h3⟩

theorem jcode_ctr (n : Int) : Ctr Tryd.prog 11 [.i .i64 n] (.i .i64 n) := by
  refine r_fun Tryd.func11 rfl Tryd.ntmps11 Tryd.results11 rfl rfl fun X hL hX => ?_
  repeat' (first
    | with_reducible (first | refine t_seq ?_ | refine t_region ?_ | refine c_nil ?_ | refine n_then ?_ | refine t_ret ?_ | refine t_skip ?_ | refine t_exit ?_ | refine t_block ?_ | refine n_block ?_ | refine e_then ?_ | refine x_then ?_ | refine x_block ?_ | refine t_draw ?_)
    | refine r_val rfl rfl True.intro ?_ | refine r_gskip rfl rfl rfl ?_ | refine r_gskip2 rfl rfl rfl ?_ | refine r_gval rfl rfl rfl rfl True.intro ?_
    | refine t_true rfl ?_ | refine t_false rfl ?_
    | ((first | refine t_cond_d rfl ?_ ?_ | refine t_cond_i rfl ?_ ?_ | refine t_cond_j rfl ?_ ?_ | refine t_cond_s rfl ?_ ?_ | refine t_cond_n rfl ?_ ?_ | refine t_cond rfl ?_ ?_ | refine c_split_d rfl rfl ?_ ?_ | refine c_split_i rfl rfl ?_ ?_ | refine c_split_j rfl rfl ?_ ?_ | refine c_split_s rfl rfl ?_ ?_ | refine c_split_n rfl rfl ?_ ?_) <;> intro <;> try (first | (rename_i hz; exact Bool.noConfusion (show true = false from hz)) | (rename_i hz; exact Bool.noConfusion (show false = true from hz)) | (exfalso; omega)))
    | ((first | refine r_val rfl rfl ?_ ?_ | refine r_gval rfl rfl rfl rfl ?_ ?_ | refine r_obj rfl rfl ?_ ?_ | refine r_sto rfl ?_ ?_ | refine r_gobj rfl rfl rfl rfl ?_ ?_); focus (first | omega | exact Nat.le_of_ble_eq_true rfl | ((repeat first | rw [wrap_u8] | rw [IntKind.wrap_i64] | rw [IntKind.wrap_i32] | rw [wrap_u32'] | rw [wrap_u64']); (repeat' refine And.intro ?_ ?_) <;> omega) | ((repeat' refine And.intro ?_ ?_) <;> first | omega | rfl | exact Nat.le_refl _ | exact Nat.le_of_ble_eq_true rfl | exact bytesF_one _) | (simp_all; done) | (simp_all; omega)))
    | refine e_hit rfl ?_ | refine e_miss rfl ?_
    | with_reducible refine ⟨by kernel_rfl, ?_⟩ | refine x_end rfl ?_ | ((with_reducible refine c_grd ?_); (fail_if_success (refine c_lit true rfl rfl rfl ?_)); (fail_if_success (refine c_lit false rfl rfl rfl ?_)); refine c_split rfl rfl (fun _ => ?_) (fun _ => ?_)))
  all_goals rfl

def liveA : List UInt8 := [91, 49, 44, 32, 123, 125, 93]
def liveB : List UInt8 := [91, 49, 44, 93]
theorem liveA_eq : (jparse liveA).1.kind = 4 ∧ (jparse liveA).1.list.length = 2 ∧ ((jparse liveA).1.list.getD 1 j0).kind = 5 ∧ (jparse liveA).2 = (7, 0) := by decide +kernel
theorem liveB_eq : (jparse liveB).2 = (3, 3) := by decide +kernel

theorem parD_P (r : J × Nat × Int) : parD r = .tu [.ag (jP r.1), .i .i64 r.2.1, .i .i64 r.2.2] := by
  unfold parD
  rw [jC_P]
set_option maxRecDepth 100000 in
set_option maxHeartbeats 2000000 in
theorem jlive_ctr : Ctr Tryd.prog 7 [] (.b true) := by
  have c1 := parse_jctr liveA (by decide)
  have c2 := parse_jctr liveB (by decide)
  obtain ⟨a1, a2, a3, a4⟩ := liveA_eq
  have b1 := liveB_eq
  rw [parD_P] at c1 c2
  generalize jparse liveA = R at *
  generalize jparse liveB = R' at *
  obtain ⟨x, n, e⟩ := R
  obtain ⟨x', n', e'⟩ := R'
  obtain ⟨k, y, g, d, ex, t, l, ks⟩ := x
  cases a4
  cases b1
  replace a1 : k = 4 := a1
  subst a1
  replace a2 : l.length = 2 := a2
  match l, a2 with
  | [p, q], _ =>
  obtain ⟨k1, y1, g1, d1, ex1, t1, l1, ks1⟩ := q
  replace a3 : k1 = 5 := a3
  subst a3
  replace c1 := Ctr.weakR c1 (.tu3 (jP_Q _) (.refl _) (.refl _))
  have c3 := jcode_ctr 0
  have c4 := jcode_ctr 3
  refine r_fun Tryd.func7 rfl Tryd.ntmps7 Tryd.results7 rfl rfl fun X hL hX => ?_
  repeat' (first
    | refine r_call (f := 8) rfl rfl Tryd.call8 rfl c1 ?_ | refine r_call (f := 8) rfl rfl Tryd.call8 rfl c2 ?_ | refine r_call (f := 11) rfl rfl Tryd.call11 rfl c3 ?_ | refine r_call (f := 11) rfl rfl Tryd.call11 rfl c4 ?_ | refine r_gcall (f := 11) rfl rfl rfl rfl Tryd.call11 rfl c3 ?_ | refine r_gcall (f := 11) rfl rfl rfl rfl Tryd.call11 rfl c4 ?_
    | with_reducible (first | refine t_seq ?_ | refine t_region ?_ | refine c_nil ?_ | refine n_then ?_ | refine t_ret ?_ | refine t_skip ?_ | refine t_exit ?_ | refine t_block ?_ | refine n_block ?_ | refine e_then ?_ | refine x_then ?_ | refine x_block ?_ | refine t_draw ?_)
    | refine r_val rfl rfl True.intro ?_ | refine r_gskip rfl rfl rfl ?_ | refine r_gskip2 rfl rfl rfl ?_ | refine r_gval rfl rfl rfl rfl True.intro ?_
    | refine t_true rfl ?_ | refine t_false rfl ?_
    | ((first | refine t_cond_d rfl ?_ ?_ | refine t_cond_i rfl ?_ ?_ | refine t_cond_j rfl ?_ ?_ | refine t_cond_s rfl ?_ ?_ | refine t_cond_n rfl ?_ ?_ | refine t_cond rfl ?_ ?_ | refine c_split_d rfl rfl ?_ ?_ | refine c_split_i rfl rfl ?_ ?_ | refine c_split_j rfl rfl ?_ ?_ | refine c_split_s rfl rfl ?_ ?_ | refine c_split_n rfl rfl ?_ ?_) <;> intro <;> try (first | (rename_i hz; exact Bool.noConfusion (show true = false from hz)) | (rename_i hz; exact Bool.noConfusion (show false = true from hz)) | (exfalso; omega)))
    | ((first | refine r_val rfl rfl ?_ ?_ | refine r_gval rfl rfl rfl rfl ?_ ?_ | refine r_obj rfl rfl ?_ ?_ | refine r_sto rfl ?_ ?_ | refine r_gobj rfl rfl rfl rfl ?_ ?_); focus (first | omega | exact Nat.le_of_ble_eq_true rfl | ((repeat first | rw [wrap_u8] | rw [IntKind.wrap_i64] | rw [IntKind.wrap_i32] | rw [wrap_u32'] | rw [wrap_u64']); (repeat' refine And.intro ?_ ?_) <;> omega) | ((repeat' refine And.intro ?_ ?_) <;> first | omega | rfl | exact Nat.le_refl _ | exact Nat.le_of_ble_eq_true rfl | exact bytesF_one _) | (simp_all; done) | (simp_all; omega)))
    | refine e_hit rfl ?_ | refine e_miss rfl ?_
    | with_reducible refine ⟨by kernel_rfl, ?_⟩ | refine x_end rfl ?_ | ((with_reducible refine c_grd ?_); (fail_if_success (refine c_lit true rfl rfl rfl ?_)); (fail_if_success (refine c_lit false rfl rfl rfl ?_)); refine c_split rfl rfl (fun _ => ?_) (fun _ => ?_)))
  all_goals first | rfl | (exfalso; rename_i q; exact q rfl) | (exfalso; simp_all; done)

end Go.Proofs.YtbegohehjkjnmaaDoor.Flow

/- JSON: the program's Same. -/
namespace Go.Proofs.YtbegohehjkjnmaaDoor.Flow
open Go

end Go.Proofs.YtbegohehjkjnmaaDoor.Flow

/- JSON: a map's part, by both. -/
namespace Go.Proofs.YtbegohehjkjnmaaDoor.Flow
open Go

def getJ (x : J) (k : List UInt8) : J × Bool := if x.kind = 5 ∧ 0 ≤ idxJ k x.keys ∧ idxJ k x.keys < x.list.length then (x.list.getD (idxJ k x.keys).toNat j0, true) else (j0, false)
def getD (r : J × Bool) : D := .tu [.ag (jP r.1), .b r.2]
theorem get_none : Weak (.tu [.ag j0C, .b false]) (getD (j0, false)) := by
  unfold getD
  refine .tu2 ?_ (.refl _)
  rw [← jC_P]
  exact lit_weak 0 false
theorem getD_free (r : J × Bool) : (getD r).free = true := rfl

end Go.Proofs.YtbegohehjkjnmaaDoor.Flow

/- JSON: how much a value has (the document's weigh, Big). -/
namespace Go.Proofs.YtbegohehjkjnmaaDoor.Flow
open Go

/-- The bytes of a value's texts, and its parts. -/
def txL : List (List UInt8) → Nat
  | [] => 0
  | k :: r => k.length + 1 + txL r
mutual
def jb : J → Nat
  | .mk _ _ _ d _ t l ks => 1 + d.length + t.length + jbL l + txL ks
def jbL : List J → Nat
  | [] => 0
  | x :: r => jb x + jbL r
end
theorem jb_eq (x : J) : jb x = 1 + x.dig.length + x.text.length + jbL x.list + txL x.keys := by
  cases x
  rw [jb]
  rfl
theorem txL_len : ∀ l : List (List UInt8), l.length ≤ txL l
  | [] => Nat.zero_le _
  | k :: r => by
    have := txL_len r
    rw [txL, List.length_cons]
    omega
theorem jbL_at : ∀ {l : List J} {i : Nat}, i < l.length → jb (l.getD i j0) ≤ jbL l
  | [], _, h => by simp at h
  | x :: r, 0, _ => by
    rw [jbL]
    exact Nat.le_add_right _ _
  | x :: r, i + 1, h => by
    have := jbL_at (l := r) (i := i) (by simpa using h)
    rw [jbL]
    have e : (x :: r).getD (i + 1) j0 = r.getD i j0 := by simp
    rw [e]
    omega
mutual
theorem jw_jb : ∀ x : J, jw x ≤ jb x
  | .mk k y n d e t l ks => by
    have := jwL_jbL l
    have := txL_len ks
    rw [jw, jb]
    omega
theorem jwL_jbL : ∀ l : List J, jwL l ≤ jbL l
  | [] => Nat.le_refl _
  | x :: r => by
    have := jw_jb x
    have := jwL_jbL r
    rw [jwL, jbL]
    omega
end

/-- A sum that stops above 400. -/
def wsum (f : Nat → Int) (len : Nat) (i : Nat) (n : Int) : Int := if i < len ∧ n ≤ 400 then wsum f len (i + 1) (n + f i) else n
termination_by len - i
def ksum (ks : List (List UInt8)) (i : Nat) : Nat := txL (ks.drop i) - (ks.drop i).length
def wgJ : Nat → J → Int
  | 0, _ => 1000
  | d + 1, x => if 400 < x.list.length ∨ 400 < x.keys.length then 1000 else
    wsum (fun i => wgJ d (x.list.getD i j0)) x.list.length 0 (1 + x.text.length + x.dig.length + x.keys.length + (txL x.keys - x.keys.length : Nat))

theorem wsum_le {f : Nat → Int} {len : Nat} {m : Int} (hf : ∀ i, i < len → 0 ≤ f i ∧ f i ≤ m) : ∀ (k i : Nat) (n : Int), len - i ≤ k → 0 ≤ n → n ≤ wsum f len i n ∧ (wsum f len i n ≤ n ∨ wsum f len i n ≤ 400 + m) := by
  intro k
  induction k with
  | zero =>
    intro i n h hn
    rw [wsum, if_neg (by omega)]
    exact ⟨Int.le_refl _, .inl (Int.le_refl _)⟩
  | succ k ih =>
    intro i n h hn
    rw [wsum]
    by_cases c : i < len ∧ n ≤ 400
    · rw [if_pos c]
      have h1 := hf i c.1
      have h2 := ih (i + 1) (n + f i) (by omega) (by omega)
      exact ⟨by omega, by omega⟩
    · rw [if_neg c]
      exact ⟨Int.le_refl _, .inl (Int.le_refl _)⟩
theorem wgJ_le : ∀ (d : Nat) (x : J), jb x ≤ 4194304 → 0 ≤ wgJ d x ∧ wgJ d x ≤ 4194304 * 2 + 1000 * d := by
  intro d
  induction d with
  | zero => intro x _; exact ⟨by unfold wgJ; omega, by unfold wgJ; omega⟩
  | succ d ih =>
    intro x h
    have hb := jb_eq x
    have hk := txL_len x.keys
    unfold wgJ
    split
    · omega
    · have := wsum_le (f := fun i => wgJ d (x.list.getD i j0)) (len := x.list.length) (m := 4194304 * 2 + 1000 * d) (fun i hi => ih _ (by have := jbL_at hi; omega)) _ 0 (1 + x.text.length + x.dig.length + x.keys.length + (txL x.keys - x.keys.length : Nat)) (Nat.le_refl _) (by omega)
      omega
/-- The keys from the front, so many. -/
def kfront (ks : List (List UInt8)) : Nat → Nat
  | 0 => 0
  | i + 1 => kfront ks i + (ks.getD i []).length
theorem kfront_cons (k : List UInt8) (r : List (List UInt8)) : ∀ i, kfront (k :: r) (i + 1) = k.length + kfront r i
  | 0 => by simp [kfront]
  | i + 1 => by
    rw [kfront, kfront_cons k r i]
    simp only [kfront]
    simp only [List.getD_cons_succ]
    omega
theorem kfront_all : ∀ ks : List (List UInt8), kfront ks ks.length + ks.length = txL ks
  | [] => rfl
  | k :: r => by
    have := kfront_all r
    rw [List.length_cons, kfront_cons, txL]
    omega
theorem kfront_le {ks : List (List UInt8)} : ∀ {i : Nat}, i ≤ ks.length → kfront ks i ≤ kfront ks ks.length := by
  have step : ∀ (i m : Nat), kfront ks i ≤ kfront ks (i + m) := by
    intro i m
    induction m with
    | zero => exact Nat.le_refl _
    | succ m ih =>
      rw [← Nat.add_assoc, kfront]
      omega
  intro i h
  have := step i (ks.length - i)
  rw [show i + (ks.length - i) = ks.length by omega] at this
  exact this

end Go.Proofs.YtbegohehjkjnmaaDoor.Flow
