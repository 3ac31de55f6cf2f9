/- The texts D10, D14, T1, LibsI, D11, D17a, one behind the other. -/
import Derived.Test.YteidmimpkipcfaaDoorK7
/- DEC: a decimal's text, by both. -/
namespace Go.Proofs.YteidmimpkipcfaaDoor.Flow
open Go

abbrev zs (n : Nat) : List UInt8 := List.replicate n 48

theorem repeatL_one (n : Nat) : Lib.repeatL [48] n = zs n := by
  induction n with
  | zero => rfl
  | succ n ih =>
    rw [Lib.repeatL, ih]
    show _ = List.replicate (n + 1) 48
    rw [List.replicate_succ]
    rfl

/-- The text of a right decimal that isn't 0, the sign left out. -/
def textU (s : List UInt8) (e : Int) : List UInt8 :=
  if 0 ≤ e ∧ s.length + e ≤ 21 then s ++ zs e.toNat
  else if 1 ≤ s.length + e ∧ s.length + e < s.length then s.take (s.length + e).toNat ++ [46] ++ s.drop (s.length + e).toNat
  else if -6 ≤ s.length + e ∧ s.length + e ≤ 0 then [48, 46] ++ zs (-(s.length + e)).toNat ++ s
  else s.take 1 ++ (if 1 < s.length then [46] ++ s.drop 1 else []) ++ [101] ++ Lib.itoa (s.length + e - 1)
def textF (neg : Bool) (s : List UInt8) (e : Int) : List UInt8 :=
  if ¬ RightP neg s e then [] else if s.length = 0 then [48] else (if neg = true then [45] else []) ++ textU s e

theorem rep_ctr (e : Int) (h : 0 ≤ e) (h2 : e ≤ 1000000) : Ctr Tryd.prog 83 [.s [48], .i .i64 e] (.s (zs e.toNat)) := by
  obtain ⟨n, rfl⟩ := Int.eq_ofNat_of_zero_le h
  have := repeat_ctr [48] n (by omega) (by simp; omega)
  rwa [repeatL_one] at this

theorem zeros_ctr (e : Int) (h : 0 ≤ e) (h2 : e ≤ 1000000) : Ctr Tryd.prog 43 [.i .i64 e] (.s (zs e.toNat)) := by
  obtain ⟨n, rfl⟩ := Int.eq_ofNat_of_zero_le h
  refine r_fun Tryd.func43 rfl Tryd.ntmps43 Tryd.results43 rfl rfl fun X hL hX => ?_
  repeat' (first
    | with_reducible refine t_seq ?_ | with_reducible refine t_region ?_ | with_reducible refine c_nil ?_ | with_reducible refine n_then ?_
    | with_reducible refine t_ret ?_ | with_reducible refine t_skip ?_ | with_reducible refine t_exit ?_ | with_reducible refine t_block ?_
    | with_reducible refine n_block ?_ | with_reducible refine e_then ?_ | with_reducible refine x_then ?_ | with_reducible refine x_block ?_ | with_reducible refine t_draw ?_
    | refine r_val rfl rfl True.intro ?_ | refine r_gskip rfl rfl rfl ?_ | refine r_gskip2 rfl rfl rfl ?_ | refine r_gval rfl rfl rfl rfl True.intro ?_
    | refine t_true rfl ?_ | refine t_false rfl ?_
    | ((first | refine t_cond_d rfl (fun _ => ?_) (fun _ => ?_) | refine t_cond_i rfl (fun _ => ?_) (fun _ => ?_) | refine t_cond_j rfl (fun _ => ?_) (fun _ => ?_) | refine t_cond_s rfl (fun _ => ?_) (fun _ => ?_) | refine t_cond_n rfl (fun _ => ?_) (fun _ => ?_) | refine t_cond rfl (fun _ => ?_) (fun _ => ?_) | refine c_split_d rfl rfl (fun _ => ?_) (fun _ => ?_) | refine c_split_i rfl rfl (fun _ => ?_) (fun _ => ?_) | refine c_split_j rfl rfl (fun _ => ?_) (fun _ => ?_) | refine c_split_s rfl rfl (fun _ => ?_) (fun _ => ?_) | refine c_split_n rfl rfl (fun _ => ?_) (fun _ => ?_)) <;> try (first | contradiction | (exfalso; omega)))
    | refine r_val rfl rfl (by (first | omega | exact Nat.le_of_ble_eq_true rfl | (simp only [wrap_u8, IntKind.wrap_i64, IntKind.wrap_i32, wrap_u32', wrap_u64', InI]; (repeat' refine And.intro ?_ ?_) <;> omega) | ((repeat' refine And.intro ?_ ?_) <;> first | omega | rfl | exact Nat.le_refl _ | exact Nat.le_of_ble_eq_true rfl | exact bytesF_one _) | (simp_all; done) | (simp_all; omega))) ?_ | refine r_gval rfl rfl rfl rfl (by (first | omega | exact Nat.le_of_ble_eq_true rfl | (simp only [wrap_u8, IntKind.wrap_i64, IntKind.wrap_i32, wrap_u32', wrap_u64', InI]; (repeat' refine And.intro ?_ ?_) <;> omega) | ((repeat' refine And.intro ?_ ?_) <;> first | omega | rfl | exact Nat.le_refl _ | exact Nat.le_of_ble_eq_true rfl | exact bytesF_one _) | (simp_all; done) | (simp_all; omega))) ?_
    | refine r_obj rfl rfl (by (first | omega | exact Nat.le_of_ble_eq_true rfl | (simp only [wrap_u8, IntKind.wrap_i64, IntKind.wrap_i32, wrap_u32', wrap_u64', InI]; (repeat' refine And.intro ?_ ?_) <;> omega) | ((repeat' refine And.intro ?_ ?_) <;> first | omega | rfl | exact Nat.le_refl _ | exact Nat.le_of_ble_eq_true rfl | exact bytesF_one _) | (simp_all; done) | (simp_all; omega))) ?_ | refine r_sto rfl (by (first | omega | exact Nat.le_of_ble_eq_true rfl | (simp only [wrap_u8, IntKind.wrap_i64, IntKind.wrap_i32, wrap_u32', wrap_u64', InI]; (repeat' refine And.intro ?_ ?_) <;> omega) | ((repeat' refine And.intro ?_ ?_) <;> first | omega | rfl | exact Nat.le_refl _ | exact Nat.le_of_ble_eq_true rfl | exact bytesF_one _) | (simp_all; done) | (simp_all; omega))) ?_ | refine r_gobj rfl rfl rfl rfl (by (first | omega | exact Nat.le_of_ble_eq_true rfl | (simp only [wrap_u8, IntKind.wrap_i64, IntKind.wrap_i32, wrap_u32', wrap_u64', InI]; (repeat' refine And.intro ?_ ?_) <;> omega) | ((repeat' refine And.intro ?_ ?_) <;> first | omega | rfl | exact Nat.le_refl _ | exact Nat.le_of_ble_eq_true rfl | exact bytesF_one _) | (simp_all; done) | (simp_all; omega))) ?_
    | refine e_hit rfl ?_ | refine e_miss rfl ?_
    | refine ⟨by kernel_rfl, ?_⟩ | refine x_end rfl ?_ | ((with_reducible refine c_grd ?_); (fail_if_success (refine c_lit true rfl rfl rfl ?_)); (fail_if_success (refine c_lit false rfl rfl rfl ?_)); refine c_split rfl rfl (fun _ => ?_) (fun _ => ?_)))
  refine T.loop hL (fun k : Nat => [(0, .i .i64 n), (3, .s (zs k)), (4, .i .i64 k)]) (fun _ => []) (fun k => k ≤ n) (fun k => n - k) 0 (Nat.zero_le _) ⟨⟨rfl, rfl, rfl, trivial⟩, trivial, rfl, by rw [hX]; intro k hk; cases hk⟩ ?_
  intro k hk
  have hl : (zs k).length = k := by simp
  repeat' (first
    | with_reducible refine t_seq ?_ | with_reducible refine t_region ?_ | with_reducible refine c_nil ?_ | with_reducible refine n_then ?_
    | with_reducible refine t_ret ?_ | with_reducible refine t_skip ?_ | with_reducible refine t_exit ?_ | with_reducible refine t_block ?_
    | with_reducible refine n_block ?_ | with_reducible refine e_then ?_ | with_reducible refine x_then ?_ | with_reducible refine x_block ?_ | with_reducible refine t_draw ?_
    | refine r_val rfl rfl True.intro ?_ | refine r_gskip rfl rfl rfl ?_ | refine r_gskip2 rfl rfl rfl ?_ | refine r_gval rfl rfl rfl rfl True.intro ?_
    | refine t_true rfl ?_ | refine t_false rfl ?_
    | ((first | refine t_cond_d rfl (fun _ => ?_) (fun _ => ?_) | refine t_cond_i rfl (fun _ => ?_) (fun _ => ?_) | refine t_cond_j rfl (fun _ => ?_) (fun _ => ?_) | refine t_cond_s rfl (fun _ => ?_) (fun _ => ?_) | refine t_cond_n rfl (fun _ => ?_) (fun _ => ?_) | refine t_cond rfl (fun _ => ?_) (fun _ => ?_) | refine c_split_d rfl rfl (fun _ => ?_) (fun _ => ?_) | refine c_split_i rfl rfl (fun _ => ?_) (fun _ => ?_) | refine c_split_j rfl rfl (fun _ => ?_) (fun _ => ?_) | refine c_split_s rfl rfl (fun _ => ?_) (fun _ => ?_) | refine c_split_n rfl rfl (fun _ => ?_) (fun _ => ?_)) <;> try (first | (rename_i hz; exact Bool.noConfusion (show true = false from hz)) | (rename_i hz; exact Bool.noConfusion (show false = true from hz)) | (exfalso; omega)))
    | refine r_val rfl rfl (by (first | (simp only [List.length_replicate, Array.length_toList, List.size_toArray, List.length_cons, List.length_nil]; omega) | omega | exact Nat.le_of_ble_eq_true rfl | (simp only [wrap_u8, IntKind.wrap_i64, IntKind.wrap_i32, wrap_u32', wrap_u64', InI]; (repeat' refine And.intro ?_ ?_) <;> omega) | ((repeat' refine And.intro ?_ ?_) <;> first | omega | rfl | exact Nat.le_refl _ | exact Nat.le_of_ble_eq_true rfl | exact bytesF_one _) | (simp_all; done) | (simp_all; omega))) ?_ | refine r_gval rfl rfl rfl rfl (by (first | (simp only [List.length_replicate, Array.length_toList, List.size_toArray, List.length_cons, List.length_nil]; omega) | omega | exact Nat.le_of_ble_eq_true rfl | (simp only [wrap_u8, IntKind.wrap_i64, IntKind.wrap_i32, wrap_u32', wrap_u64', InI]; (repeat' refine And.intro ?_ ?_) <;> omega) | ((repeat' refine And.intro ?_ ?_) <;> first | omega | rfl | exact Nat.le_refl _ | exact Nat.le_of_ble_eq_true rfl | exact bytesF_one _) | (simp_all; done) | (simp_all; omega))) ?_
    | refine r_obj rfl rfl (by (first | (simp only [List.length_replicate, Array.length_toList, List.size_toArray, List.length_cons, List.length_nil]; omega) | omega | exact Nat.le_of_ble_eq_true rfl | (simp only [wrap_u8, IntKind.wrap_i64, IntKind.wrap_i32, wrap_u32', wrap_u64', InI]; (repeat' refine And.intro ?_ ?_) <;> omega) | ((repeat' refine And.intro ?_ ?_) <;> first | omega | rfl | exact Nat.le_refl _ | exact Nat.le_of_ble_eq_true rfl | exact bytesF_one _) | (simp_all; done) | (simp_all; omega))) ?_ | refine r_sto rfl (by (first | (simp only [List.length_replicate, Array.length_toList, List.size_toArray, List.length_cons, List.length_nil]; omega) | omega | exact Nat.le_of_ble_eq_true rfl | (simp only [wrap_u8, IntKind.wrap_i64, IntKind.wrap_i32, wrap_u32', wrap_u64', InI]; (repeat' refine And.intro ?_ ?_) <;> omega) | ((repeat' refine And.intro ?_ ?_) <;> first | omega | rfl | exact Nat.le_refl _ | exact Nat.le_of_ble_eq_true rfl | exact bytesF_one _) | (simp_all; done) | (simp_all; omega))) ?_ | refine r_gobj rfl rfl rfl rfl (by (first | (simp only [List.length_replicate, Array.length_toList, List.size_toArray, List.length_cons, List.length_nil]; omega) | omega | exact Nat.le_of_ble_eq_true rfl | (simp only [wrap_u8, IntKind.wrap_i64, IntKind.wrap_i32, wrap_u32', wrap_u64', InI]; (repeat' refine And.intro ?_ ?_) <;> omega) | ((repeat' refine And.intro ?_ ?_) <;> first | omega | rfl | exact Nat.le_refl _ | exact Nat.le_of_ble_eq_true rfl | exact bytesF_one _) | (simp_all; done) | (simp_all; omega))) ?_
    | refine e_hit rfl ?_ | refine e_miss rfl ?_
    | refine ⟨by kernel_rfl, ?_⟩ | refine x_end rfl ?_ | ((with_reducible refine c_grd ?_); (fail_if_success (refine c_lit true rfl rfl rfl ?_)); (fail_if_success (refine c_lit false rfl rfl rfl ?_)); refine c_split rfl rfl (fun _ => ?_) (fun _ => ?_)))
  · exact ⟨k + 1, by omega, by omega, ⟨rfl, congrArg D.s (List.replicate_succ' (a := (48 : UInt8)) (n := k)).symm, rfl, trivial⟩, trivial, rfl, by rw [hX]; intro k hk; cases hk⟩
  · rw [show k = n by omega]
    simp

abbrev dig10 : List UInt8 := [48, 49, 50, 51, 52, 53, 54, 55, 56, 57]
theorem dig_at : ∀ n : Nat, n < 10 → (dig10.take (n + 1)).drop n = [UInt8.ofNat (48 + n)] := by decide

theorem rnum_pos (n : Nat) : n ≤ 1000000 → Ctr Tryd.prog 44 [.i .i64 n] (.s (Lib.decDigits n)) := by
  induction n using Nat.strongRecOn with
  | ind n ih =>
    intro hn
    have hl : (Lib.decDigits (n / 10)).length ≤ 100 := dlen (n / 10) (by omega)
    have l1 : dig10.length = 10 := rfl
    by_cases h : n < 10
    · have e : Lib.decDigits n = [UInt8.ofNat (48 + n)] := by rw [Lib.decDigits, dif_pos h]
      refine r_fun Tryd.func44 rfl Tryd.ntmps44 Tryd.results44 rfl rfl fun X hL hX => ?_
      clear ih hl
      repeat' (first
        | with_reducible refine t_seq ?_ | with_reducible refine t_region ?_ | with_reducible refine c_nil ?_ | with_reducible refine n_then ?_
        | with_reducible refine t_ret ?_ | with_reducible refine t_skip ?_ | with_reducible refine t_exit ?_ | with_reducible refine t_block ?_
        | with_reducible refine n_block ?_ | with_reducible refine e_then ?_ | with_reducible refine x_then ?_ | with_reducible refine x_block ?_ | with_reducible refine t_draw ?_
        | refine r_val rfl rfl True.intro ?_ | refine r_gskip rfl rfl rfl ?_ | refine r_gskip2 rfl rfl rfl ?_ | refine r_gval rfl rfl rfl rfl True.intro ?_
        | refine t_true rfl ?_ | refine t_false rfl ?_
        | ((first | refine t_cond_d rfl (fun _ => ?_) (fun _ => ?_) | refine t_cond_i rfl (fun _ => ?_) (fun _ => ?_) | refine t_cond_j rfl (fun _ => ?_) (fun _ => ?_) | refine t_cond_s rfl (fun _ => ?_) (fun _ => ?_) | refine t_cond_n rfl (fun _ => ?_) (fun _ => ?_) | refine t_cond rfl (fun _ => ?_) (fun _ => ?_) | refine c_split_d rfl rfl (fun _ => ?_) (fun _ => ?_) | refine c_split_i rfl rfl (fun _ => ?_) (fun _ => ?_) | refine c_split_j rfl rfl (fun _ => ?_) (fun _ => ?_) | refine c_split_s rfl rfl (fun _ => ?_) (fun _ => ?_) | refine c_split_n rfl rfl (fun _ => ?_) (fun _ => ?_)) <;> try (first | contradiction | (exfalso; omega)))
        | refine r_val rfl rfl (by (first | omega | exact Nat.le_of_ble_eq_true rfl | (simp only [wrap_u8, IntKind.wrap_i64, IntKind.wrap_i32, wrap_u32', wrap_u64', InI]; (repeat' refine And.intro ?_ ?_) <;> omega) | ((repeat' refine And.intro ?_ ?_) <;> first | omega | rfl | exact Nat.le_refl _ | exact Nat.le_of_ble_eq_true rfl | exact bytesF_one _) | (simp_all; done) | (simp_all; omega))) ?_ | refine r_gval rfl rfl rfl rfl (by (first | omega | exact Nat.le_of_ble_eq_true rfl | (simp only [wrap_u8, IntKind.wrap_i64, IntKind.wrap_i32, wrap_u32', wrap_u64', InI]; (repeat' refine And.intro ?_ ?_) <;> omega) | ((repeat' refine And.intro ?_ ?_) <;> first | omega | rfl | exact Nat.le_refl _ | exact Nat.le_of_ble_eq_true rfl | exact bytesF_one _) | (simp_all; done) | (simp_all; omega))) ?_
        | refine r_obj rfl rfl (by (first | omega | exact Nat.le_of_ble_eq_true rfl | (simp only [wrap_u8, IntKind.wrap_i64, IntKind.wrap_i32, wrap_u32', wrap_u64', InI]; (repeat' refine And.intro ?_ ?_) <;> omega) | ((repeat' refine And.intro ?_ ?_) <;> first | omega | rfl | exact Nat.le_refl _ | exact Nat.le_of_ble_eq_true rfl | exact bytesF_one _) | (simp_all; done) | (simp_all; omega))) ?_ | refine r_sto rfl (by (first | omega | exact Nat.le_of_ble_eq_true rfl | (simp only [wrap_u8, IntKind.wrap_i64, IntKind.wrap_i32, wrap_u32', wrap_u64', InI]; (repeat' refine And.intro ?_ ?_) <;> omega) | ((repeat' refine And.intro ?_ ?_) <;> first | omega | rfl | exact Nat.le_refl _ | exact Nat.le_of_ble_eq_true rfl | exact bytesF_one _) | (simp_all; done) | (simp_all; omega))) ?_ | refine r_gobj rfl rfl rfl rfl (by (first | omega | exact Nat.le_of_ble_eq_true rfl | (simp only [wrap_u8, IntKind.wrap_i64, IntKind.wrap_i32, wrap_u32', wrap_u64', InI]; (repeat' refine And.intro ?_ ?_) <;> omega) | ((repeat' refine And.intro ?_ ?_) <;> first | omega | rfl | exact Nat.le_refl _ | exact Nat.le_of_ble_eq_true rfl | exact bytesF_one _) | (simp_all; done) | (simp_all; omega))) ?_
        | refine e_hit rfl ?_ | refine e_miss rfl ?_
        | refine ⟨by kernel_rfl, ?_⟩ | refine x_end rfl ?_ | ((with_reducible refine c_grd ?_); (fail_if_success (refine c_lit true rfl rfl rfl ?_)); (fail_if_success (refine c_lit false rfl rfl rfl ?_)); refine c_split rfl rfl (fun _ => ?_) (fun _ => ?_)))
      rw [e, ← dig_at n h]
      rfl
    · have e : Lib.decDigits n = Lib.decDigits (n / 10) ++ [UInt8.ofNat (48 + n % 10)] := by rw [Lib.decDigits, dif_neg h]
      have c := ih (n / 10) (by omega) (by omega)
      refine r_fun Tryd.func44 rfl Tryd.ntmps44 Tryd.results44 rfl rfl fun X hL hX => ?_
      clear ih
      repeat' (first
        | with_reducible refine t_seq ?_ | with_reducible refine t_region ?_ | with_reducible refine c_nil ?_ | with_reducible refine n_then ?_
        | with_reducible refine t_ret ?_ | with_reducible refine t_skip ?_ | with_reducible refine t_exit ?_ | with_reducible refine t_block ?_
        | with_reducible refine n_block ?_ | with_reducible refine e_then ?_ | with_reducible refine x_then ?_ | with_reducible refine x_block ?_ | with_reducible refine t_draw ?_
        | refine r_val rfl rfl True.intro ?_ | refine r_gskip rfl rfl rfl ?_ | refine r_gskip2 rfl rfl rfl ?_ | refine r_gval rfl rfl rfl rfl True.intro ?_
        | refine t_true rfl ?_ | refine t_false rfl ?_
        | ((first | refine t_cond_d rfl (fun _ => ?_) (fun _ => ?_) | refine t_cond_i rfl (fun _ => ?_) (fun _ => ?_) | refine t_cond_j rfl (fun _ => ?_) (fun _ => ?_) | refine t_cond_s rfl (fun _ => ?_) (fun _ => ?_) | refine t_cond_n rfl (fun _ => ?_) (fun _ => ?_) | refine t_cond rfl (fun _ => ?_) (fun _ => ?_) | refine c_split_d rfl rfl (fun _ => ?_) (fun _ => ?_) | refine c_split_i rfl rfl (fun _ => ?_) (fun _ => ?_) | refine c_split_j rfl rfl (fun _ => ?_) (fun _ => ?_) | refine c_split_s rfl rfl (fun _ => ?_) (fun _ => ?_) | refine c_split_n rfl rfl (fun _ => ?_) (fun _ => ?_)) <;> try (first | (rename_i hz; exact Bool.noConfusion (show true = false from hz)) | (rename_i hz; exact Bool.noConfusion (show false = true from hz)) | (exfalso; omega)))
        | refine r_val rfl rfl (by (first | (simp only [List.length_drop, List.length_take]; omega) | omega | exact Nat.le_of_ble_eq_true rfl | (simp only [wrap_u8, IntKind.wrap_i64, IntKind.wrap_i32, wrap_u32', wrap_u64', InI]; (repeat' refine And.intro ?_ ?_) <;> omega) | ((repeat' refine And.intro ?_ ?_) <;> first | omega | rfl | exact Nat.le_refl _ | exact Nat.le_of_ble_eq_true rfl | exact bytesF_one _) | (simp_all; done) | (simp_all; omega))) ?_ | refine r_gval rfl rfl rfl rfl (by (first | (simp only [List.length_drop, List.length_take]; omega) | omega | exact Nat.le_of_ble_eq_true rfl | (simp only [wrap_u8, IntKind.wrap_i64, IntKind.wrap_i32, wrap_u32', wrap_u64', InI]; (repeat' refine And.intro ?_ ?_) <;> omega) | ((repeat' refine And.intro ?_ ?_) <;> first | omega | rfl | exact Nat.le_refl _ | exact Nat.le_of_ble_eq_true rfl | exact bytesF_one _) | (simp_all; done) | (simp_all; omega))) ?_
        | refine r_obj rfl rfl (by (first | (simp only [List.length_drop, List.length_take]; omega) | omega | exact Nat.le_of_ble_eq_true rfl | (simp only [wrap_u8, IntKind.wrap_i64, IntKind.wrap_i32, wrap_u32', wrap_u64', InI]; (repeat' refine And.intro ?_ ?_) <;> omega) | ((repeat' refine And.intro ?_ ?_) <;> first | omega | rfl | exact Nat.le_refl _ | exact Nat.le_of_ble_eq_true rfl | exact bytesF_one _) | (simp_all; done) | (simp_all; omega))) ?_ | refine r_sto rfl (by (first | (simp only [List.length_drop, List.length_take]; omega) | omega | exact Nat.le_of_ble_eq_true rfl | (simp only [wrap_u8, IntKind.wrap_i64, IntKind.wrap_i32, wrap_u32', wrap_u64', InI]; (repeat' refine And.intro ?_ ?_) <;> omega) | ((repeat' refine And.intro ?_ ?_) <;> first | omega | rfl | exact Nat.le_refl _ | exact Nat.le_of_ble_eq_true rfl | exact bytesF_one _) | (simp_all; done) | (simp_all; omega))) ?_ | refine r_gobj rfl rfl rfl rfl (by (first | (simp only [List.length_drop, List.length_take]; omega) | omega | exact Nat.le_of_ble_eq_true rfl | (simp only [wrap_u8, IntKind.wrap_i64, IntKind.wrap_i32, wrap_u32', wrap_u64', InI]; (repeat' refine And.intro ?_ ?_) <;> omega) | ((repeat' refine And.intro ?_ ?_) <;> first | omega | rfl | exact Nat.le_refl _ | exact Nat.le_of_ble_eq_true rfl | exact bytesF_one _) | (simp_all; done) | (simp_all; omega))) ?_
        | refine e_hit rfl ?_ | refine e_miss rfl ?_
        | refine ⟨by kernel_rfl, ?_⟩ | refine x_end rfl ?_ | refine r_call (f := 44) rfl rfl Tryd.call44 rfl c ?_ | ((with_reducible refine c_grd ?_); (fail_if_success (refine c_lit true rfl rfl rfl ?_)); (fail_if_success (refine c_lit false rfl rfl rfl ?_)); refine c_split rfl rfl (fun _ => ?_) (fun _ => ?_)))
      rw [e, ← dig_at (n % 10) (by omega)]
      rfl
where
  dlen (n : Nat) (h : n ≤ 1000000) : (Lib.decDigits n).length ≤ 100 := by
    have key : ∀ (k n : Nat), n < 10 ^ k → (Lib.decDigits n).length ≤ k + 1 := by
      intro k
      induction k with
      | zero => intro n hn; rw [Lib.decDigits, dif_pos (by omega)]; simp
      | succ k ih =>
        intro n hn
        rw [Lib.decDigits]
        split
        · simp
        · have := ih (n / 10) (by rw [Nat.pow_succ] at hn; omega)
          simp
          omega
    have := key 7 n (by omega)
    omega

theorem rnum_ctr (n : Int) (h0 : -1000000 ≤ n) (h1 : n ≤ 1000000) : Ctr Tryd.prog 44 [.i .i64 n] (.s (Lib.itoa n)) := by
  unfold Lib.itoa
  by_cases h : n < 0
  · rw [if_pos h]
    have c := rnum_pos n.natAbs (by omega)
    rw [show ((n.natAbs : Nat) : Int) = -n by omega] at c
    have hl := rnum_pos.dlen n.natAbs (by omega)
    generalize Lib.decDigits n.natAbs = ds at c hl ⊢
    refine r_fun Tryd.func44 rfl Tryd.ntmps44 Tryd.results44 rfl rfl fun X hL hX => ?_
    repeat' (first
      | with_reducible refine t_seq ?_ | with_reducible refine t_region ?_ | with_reducible refine c_nil ?_ | with_reducible refine n_then ?_
      | with_reducible refine t_ret ?_ | with_reducible refine t_skip ?_ | with_reducible refine t_exit ?_ | with_reducible refine t_block ?_
      | with_reducible refine n_block ?_ | with_reducible refine e_then ?_ | with_reducible refine x_then ?_ | with_reducible refine x_block ?_ | with_reducible refine t_draw ?_
      | refine r_val rfl rfl True.intro ?_ | refine r_gskip rfl rfl rfl ?_ | refine r_gskip2 rfl rfl rfl ?_ | refine r_gval rfl rfl rfl rfl True.intro ?_
      | refine t_true rfl ?_ | refine t_false rfl ?_
      | ((first | refine t_cond_d rfl (fun _ => ?_) (fun _ => ?_) | refine t_cond_i rfl (fun _ => ?_) (fun _ => ?_) | refine t_cond_j rfl (fun _ => ?_) (fun _ => ?_) | refine t_cond_s rfl (fun _ => ?_) (fun _ => ?_) | refine t_cond_n rfl (fun _ => ?_) (fun _ => ?_) | refine t_cond rfl (fun _ => ?_) (fun _ => ?_) | refine c_split_d rfl rfl (fun _ => ?_) (fun _ => ?_) | refine c_split_i rfl rfl (fun _ => ?_) (fun _ => ?_) | refine c_split_j rfl rfl (fun _ => ?_) (fun _ => ?_) | refine c_split_s rfl rfl (fun _ => ?_) (fun _ => ?_) | refine c_split_n rfl rfl (fun _ => ?_) (fun _ => ?_)) <;> try (first | (rename_i hz; exact Bool.noConfusion (show true = false from hz)) | (rename_i hz; exact Bool.noConfusion (show false = true from hz)) | (exfalso; omega)))
      | refine r_val rfl rfl (by (first | (simp only [Array.length_toList, List.size_toArray, List.length_cons, List.length_nil]; omega) | omega | exact Nat.le_of_ble_eq_true rfl | (simp only [wrap_u8, IntKind.wrap_i64, IntKind.wrap_i32, wrap_u32', wrap_u64', InI]; (repeat' refine And.intro ?_ ?_) <;> omega) | ((repeat' refine And.intro ?_ ?_) <;> first | omega | rfl | exact Nat.le_refl _ | exact Nat.le_of_ble_eq_true rfl | exact bytesF_one _) | (simp_all; done) | (simp_all; omega))) ?_ | refine r_gval rfl rfl rfl rfl (by (first | (simp only [Array.length_toList, List.size_toArray, List.length_cons, List.length_nil]; omega) | omega | exact Nat.le_of_ble_eq_true rfl | (simp only [wrap_u8, IntKind.wrap_i64, IntKind.wrap_i32, wrap_u32', wrap_u64', InI]; (repeat' refine And.intro ?_ ?_) <;> omega) | ((repeat' refine And.intro ?_ ?_) <;> first | omega | rfl | exact Nat.le_refl _ | exact Nat.le_of_ble_eq_true rfl | exact bytesF_one _) | (simp_all; done) | (simp_all; omega))) ?_
      | refine r_obj rfl rfl (by (first | (simp only [Array.length_toList, List.size_toArray, List.length_cons, List.length_nil]; omega) | omega | exact Nat.le_of_ble_eq_true rfl | (simp only [wrap_u8, IntKind.wrap_i64, IntKind.wrap_i32, wrap_u32', wrap_u64', InI]; (repeat' refine And.intro ?_ ?_) <;> omega) | ((repeat' refine And.intro ?_ ?_) <;> first | omega | rfl | exact Nat.le_refl _ | exact Nat.le_of_ble_eq_true rfl | exact bytesF_one _) | (simp_all; done) | (simp_all; omega))) ?_ | refine r_sto rfl (by (first | (simp only [Array.length_toList, List.size_toArray, List.length_cons, List.length_nil]; omega) | omega | exact Nat.le_of_ble_eq_true rfl | (simp only [wrap_u8, IntKind.wrap_i64, IntKind.wrap_i32, wrap_u32', wrap_u64', InI]; (repeat' refine And.intro ?_ ?_) <;> omega) | ((repeat' refine And.intro ?_ ?_) <;> first | omega | rfl | exact Nat.le_refl _ | exact Nat.le_of_ble_eq_true rfl | exact bytesF_one _) | (simp_all; done) | (simp_all; omega))) ?_ | refine r_gobj rfl rfl rfl rfl (by (first | (simp only [Array.length_toList, List.size_toArray, List.length_cons, List.length_nil]; omega) | omega | exact Nat.le_of_ble_eq_true rfl | (simp only [wrap_u8, IntKind.wrap_i64, IntKind.wrap_i32, wrap_u32', wrap_u64', InI]; (repeat' refine And.intro ?_ ?_) <;> omega) | ((repeat' refine And.intro ?_ ?_) <;> first | omega | rfl | exact Nat.le_refl _ | exact Nat.le_of_ble_eq_true rfl | exact bytesF_one _) | (simp_all; done) | (simp_all; omega))) ?_
      | refine e_hit rfl ?_ | refine e_miss rfl ?_
      | refine ⟨by kernel_rfl, ?_⟩ | refine x_end rfl ?_ | refine r_call (f := 44) rfl rfl Tryd.call44 rfl c ?_ | ((with_reducible refine c_grd ?_); (fail_if_success (refine c_lit true rfl rfl rfl ?_)); (fail_if_success (refine c_lit false rfl rfl rfl ?_)); refine c_split rfl rfl (fun _ => ?_) (fun _ => ?_)))
    rfl
  · rw [if_neg h]
    have c := rnum_pos n.toNat (by omega)
    rwa [show ((n.toNat : Nat) : Int) = n by omega] at c

theorem itoa_len (n : Int) (h0 : -1000000 ≤ n) (h1 : n ≤ 1000000) : (Lib.itoa n).length ≤ 101 := by
  unfold Lib.itoa
  split
  · have := rnum_pos.dlen n.natAbs (by omega)
    simp only [List.length_cons]
    omega
  · have := rnum_pos.dlen n.toNat (by omega)
    omega

end Go.Proofs.YteidmimpkipcfaaDoor.Flow

/- DEC: numbers and their digits, in plain words. -/
namespace Go.Proofs.YteidmimpkipcfaaDoor.Flow
open Go

/-- Digits as a number. -/
def numA (a : Nat) (l : List UInt8) : Nat := l.foldl (fun n c => 10 * n + (c.toNat - 48)) a
def numL (l : List UInt8) : Nat := numA 0 l

theorem numA_nil (a : Nat) : numA a [] = a := rfl
theorem numA_cons (a : Nat) (c : UInt8) (l : List UInt8) : numA a (c :: l) = numA (10 * a + (c.toNat - 48)) l := by
  unfold numA
  rw [List.foldl_cons]
theorem numA_app (a : Nat) (l m : List UInt8) : numA a (l ++ m) = numA (numA a l) m := by simp [numA]
theorem numA_eq (l : List UInt8) : ∀ a : Nat, numA a l = a * 10 ^ l.length + numL l := by
  induction l with
  | nil =>
    intro a
    simp [numA_nil, numL]
  | cons c l ih =>
    intro a
    have h1 := numA_cons a c l
    have h2 : numL (c :: l) = numA (10 * 0 + (c.toNat - 48)) l := numA_cons 0 c l
    rw [h1, h2, ih, ih (10 * 0 + (c.toNat - 48)), List.length_cons, Nat.pow_succ]
    generalize 10 ^ l.length = t
    generalize c.toNat - 48 = d
    have h3 : 10 * a * t = a * (t * 10) := by rw [Nat.mul_comm 10 a, Nat.mul_assoc, Nat.mul_comm 10 t]
    rw [Nat.add_mul, h3, Nat.mul_zero, Nat.zero_add]
    omega
theorem numL_cons (c : UInt8) (l : List UInt8) : numL (c :: l) = (c.toNat - 48) * 10 ^ l.length + numL l := by
  have : numL (c :: l) = numA (10 * 0 + (c.toNat - 48)) l := numA_cons 0 c l
  rw [this, numA_eq]
  simp
theorem numL_snoc (l : List UInt8) (c : UInt8) : numL (l ++ [c]) = 10 * numL l + (c.toNat - 48) := by
  unfold numL
  rw [numA_app]
  rfl

theorem isD_nat {c : UInt8} (h : isD c = true) : 48 ≤ c.toNat ∧ c.toNat ≤ 57 := by
  have := isD_iff.1 h
  omega

theorem numL_lt : ∀ (l : List UInt8), (∀ c ∈ l, isD c = true) → numL l < 10 ^ l.length
  | [], _ => by decide
  | c :: l, h => by
    have h1 := isD_nat (h c (by simp))
    have h2 := numL_lt l fun c hc => h c (by simp [hc])
    rw [numL_cons, List.length_cons, Nat.pow_succ]
    have h3 : (c.toNat - 48) * 10 ^ l.length ≤ 9 * 10 ^ l.length := Nat.mul_le_mul_right _ (by omega)
    omega

theorem numL_ge {c : UInt8} {l : List UInt8} (h : isD c = true) (h2 : ¬ c = 48) : 10 ^ l.length ≤ numL (c :: l) := by
  have h1 := isD_nat h
  have h3 : ¬ c.toNat = 48 := fun h => h2 (UInt8.toNat_inj.1 h)
  rw [numL_cons]
  have h4 : 1 * 10 ^ l.length ≤ (c.toNat - 48) * 10 ^ l.length := Nat.mul_le_mul_right _ (by omega)
  omega

theorem dec_step {k : Nat} (h : ¬ k < 10) : Lib.decDigits k = Lib.decDigits (k / 10) ++ [UInt8.ofNat (48 + k % 10)] := by rw [Lib.decDigits, dif_neg h]
theorem dec_small {k : Nat} (h : k < 10) : Lib.decDigits k = [UInt8.ofNat (48 + k)] := by rw [Lib.decDigits, dif_pos h]

theorem isD_dig {n : Nat} (h : n < 10) : isD (UInt8.ofNat (48 + n)) = true ∧ (UInt8.ofNat (48 + n)).toNat = 48 + n := by
  have : (UInt8.ofNat (48 + n)).toNat = 48 + n := by simp; omega
  exact ⟨isD_iff.2 (by omega), this⟩

theorem dec_isD (k : Nat) : ∀ c ∈ Lib.decDigits k, isD c = true := by
  induction k using Nat.strongRecOn with
  | ind k ih =>
    by_cases h : k < 10
    · rw [dec_small h]
      intro c hc
      rw [List.mem_singleton.1 hc]
      exact (isD_dig h).1
    · rw [dec_step h]
      intro c hc
      rcases List.mem_append.1 hc with hc | hc
      · exact ih (k / 10) (by omega) c hc
      · rw [List.mem_singleton.1 hc]
        exact (isD_dig (by omega)).1

theorem dec_num (k : Nat) : numL (Lib.decDigits k) = k := by
  induction k using Nat.strongRecOn with
  | ind k ih =>
    by_cases h : k < 10
    · rw [dec_small h, numL_cons, (isD_dig h).2]
      simp [numL, numA]
    · rw [dec_step h, numL_snoc, (isD_dig (by omega)).2, ih (k / 10) (by omega)]
      omega

/-- A number that isn't 0 begins with no 0. -/
theorem dec_first (k : Nat) (h : ¬ k = 0) : ∃ c l, Lib.decDigits k = c :: l ∧ ¬ c = 48 := by
  induction k using Nat.strongRecOn with
  | ind k ih =>
    by_cases h2 : k < 10
    · refine ⟨_, [], dec_small h2, fun h3 => ?_⟩
      have := congrArg UInt8.toNat h3
      rw [(isD_dig h2).2] at this
      have : (48 : UInt8).toNat = 48 := rfl
      omega
    · obtain ⟨c, l, h3, h4⟩ := ih (k / 10) (by omega) (by omega)
      exact ⟨c, l ++ [UInt8.ofNat (48 + k % 10)], by rw [dec_step h2, h3]; rfl, h4⟩

theorem dec_len (k n : Nat) (h : k < 10 ^ n) (hn : 1 ≤ n) : (Lib.decDigits k).length ≤ n := by
  induction n generalizing k with
  | zero => omega
  | succ n ih =>
    by_cases h2 : k < 10
    · rw [dec_small h2]
      simp
    · rw [dec_step h2, List.length_append, List.length_singleton]
      rw [Nat.pow_succ] at h
      by_cases hz : n = 0
      · subst hz
        omega
      · have := ih (k / 10) (by omega) (by omega)
        omega

theorem dec_ten (k : Nat) (h : ¬ k = 0) : Lib.decDigits (10 * k) = Lib.decDigits k ++ [48] := by
  rw [dec_step (by omega), show 10 * k / 10 = k by omega, show 10 * k % 10 = 0 by omega]
  rfl

/-- The digits of a number, none of 0. -/
def dig0 (k : Nat) : List UInt8 := if k = 0 then [] else Lib.decDigits k
theorem dig0_step {k : Nat} (h : ¬ k = 0) : dig0 k = dig0 (k / 10) ++ [UInt8.ofNat (48 + k % 10)] := by
  unfold dig0
  rw [if_neg h]
  by_cases h2 : k < 10
  · rw [dec_small h2, if_pos (by omega), show k % 10 = k by omega]
    rfl
  · rw [dec_step h2, if_neg (by omega)]

theorem norm_none (neg : Bool) (e : Int) : normF neg [] e = ((false, [], 0), 0) := rfl
theorem norm_zero (neg : Bool) (e : Int) : normF neg [48] e = ((false, [], 0), 0) := by
  unfold normF
  rw [if_pos (by decide)]
theorem norm_dig0 (neg : Bool) (k : Nat) (e : Int) : normF neg (dig0 k) e = normF neg (Lib.decDigits k) e := by
  unfold dig0
  split
  · rename_i h
    subst h
    rw [norm_none, show Lib.decDigits 0 = [48] from dec_small (by omega), norm_zero]
  · rfl

/-! ### Zeros at the ends -/

theorem tR_split (s : List UInt8) : s = tR s ++ zs (s.length - (tR s).length) := by
  have key : ∀ (n : Nat) (s : List UInt8), s.length = n → s = tR s ++ zs (s.length - (tR s).length) := by
    intro n
    induction n with
    | zero =>
      intro s h
      obtain rfl := List.length_eq_zero_iff.1 h
      rfl
    | succ n ih =>
      intro s h
      rcases snoc_casesU s with rfl | ⟨r, c, rfl⟩
      · simp at h
      · by_cases hc : c = 48
        · subst hc
          rw [tR_snoc_eq]
          have h1 := ih r (by simpa using h)
          have h2 := tR_len r
          rw [List.length_append, List.length_singleton, show r.length + 1 - (tR r).length = (r.length - (tR r).length) + 1 by omega]
          unfold zs at h1 ⊢
          rw [List.replicate_succ', ← List.append_assoc, ← h1]
        · rw [tR_snoc_ne r c hc]
          simp
  exact key _ s rfl

theorem tR_mem {s : List UInt8} {c : UInt8} (h : c ∈ tR s) : c ∈ s := by
  rw [tR_split s]
  exact List.mem_append_left _ h

theorem tR_lastOk (s : List UInt8) : lastOk (tR s) := by
  have key : ∀ (n : Nat) (s : List UInt8), s.length = n → lastOk (tR s) := by
    intro n
    induction n with
    | zero =>
      intro s h
      obtain rfl := List.length_eq_zero_iff.1 h
      intro c r e
      have : tR [] = [] := rfl
      rw [this] at e
      simp at e
    | succ n ih =>
      intro s h
      rcases snoc_casesU s with rfl | ⟨r, c, rfl⟩
      · simp at h
      · by_cases hc : c = 48
        · subst hc
          rw [tR_snoc_eq]
          exact ih r (by simpa using h)
        · rw [tR_snoc_ne r c hc]
          intro d q e
          have := congrArg List.getLast? e
          simp at this
          rw [← this]
          exact hc
  exact key _ s rfl

theorem lastOk_tR {s : List UInt8} (h : lastOk s) : tR s = s := by
  rcases snoc_casesU s with rfl | ⟨r, c, rfl⟩
  · rfl
  · exact tR_snoc_ne r c (h c r rfl)

theorem tR_zs (s : List UInt8) (n : Nat) : tR (s ++ zs n) = tR s := by
  induction n with
  | zero => simp
  | succ n ih =>
    unfold zs at ih ⊢
    rw [List.replicate_succ', ← List.append_assoc, tR_snoc_eq, ih]

theorem tL_zs (s : List UInt8) (n : Nat) : tL (zs n ++ s) = tL s := by
  induction n with
  | zero => simp
  | succ n ih =>
    unfold zs at ih ⊢
    rw [List.replicate_succ, List.cons_append]
    unfold tL Lib.trimLeftB at ih ⊢
    rw [List.dropWhile_cons]
    simp

theorem tL_ne {c : UInt8} {l : List UInt8} (h : ¬ c = 48) : tL (c :: l) = c :: l := by
  unfold tL Lib.trimLeftB
  rw [List.dropWhile_cons]
  simp [h]

/-- A number's digits, the zeros at the right left out, begin with no 0. -/
theorem tR_first {c : UInt8} {l : List UInt8} (h : ¬ c = 48) : ∃ m, tR (c :: l) = c :: m := by
  have h1 := tR_split (c :: l)
  match hm : tR (c :: l) with
  | [] =>
    rw [hm] at h1
    simp only [List.length_cons, List.length_nil, Nat.sub_zero, List.nil_append] at h1
    unfold zs at h1
    rw [List.replicate_succ] at h1
    exact absurd (List.cons.inj h1).1 h
  | d :: m =>
    rw [hm] at h1
    have := (List.cons.inj h1).1
    exact ⟨m, by rw [this]⟩

/-- A number times a power of ten. -/
def ofF (n e : Int) : Bool × List UInt8 × Int := if e < -2000 ∨ 2000 < e then (false, [], 0) else (normF (decide (n < 0)) (Lib.decDigits n.natAbs) e).1

theorem ofF_zero (e : Int) : ofF 0 e = (false, [], 0) := by
  unfold ofF
  split
  · rfl
  · show (normF false (Lib.decDigits 0) e).1 = _
    rw [show Lib.decDigits 0 = [48] from dec_small (by omega), norm_zero]

theorem ofF_num {n e : Int} (h : ¬ n = 0) (hn : n.natAbs < 10 ^ 19) (h0 : -900 ≤ e) (h1 : e ≤ 900) :
    ofF n e = (decide (n < 0), tR (Lib.decDigits n.natAbs), e + ((Lib.decDigits n.natAbs).length - (tR (Lib.decDigits n.natAbs)).length)) ∧
      RightP (decide (n < 0)) (tR (Lib.decDigits n.natAbs)) (e + ((Lib.decDigits n.natAbs).length - (tR (Lib.decDigits n.natAbs)).length)) := by
  have hl := dec_len n.natAbs 19 hn (by omega)
  obtain ⟨c, l, hc, hc2⟩ := dec_first n.natAbs (by omega)
  have hd := dec_isD n.natAbs
  have hs := tR_split (Lib.decDigits n.natAbs)
  have hk := tR_lastOk (Lib.decDigits n.natAbs)
  have hlen := tR_len (Lib.decDigits n.natAbs)
  have hf := tR_first (l := l) hc2
  rw [← hc] at hf
  unfold ofF normF
  generalize Lib.decDigits n.natAbs = D at *
  obtain ⟨m, hm⟩ := hf
  have hd2 : ∀ c ∈ tR D, isD c = true := fun c h => hd c (by rw [hs]; simp [h])
  rw [hm] at hk hlen hd2 ⊢
  simp only [List.length_cons] at hlen
  rw [if_neg (by omega), tL_ne hc2, if_neg (by simp), if_neg (by simp only [List.length_cons]; omega), if_neg (by simp only [List.length_cons]; omega)]
  refine ⟨rfl, ?_⟩
  rw [right_cons (by simp)]
  refine ⟨fun i hi => isD_iff.1 (hd2 _ ?_), by simp only [List.length_cons]; omega, fun h => hc2 ((u8_eq (n := 48) (by omega)).1 h), fun h => ?_, by simp only [List.length_cons]; omega, by simp only [List.length_cons]; omega⟩
  · simp only [Int.toNat_natCast, List.getD_eq_getElem?_getD, List.getElem?_eq_getElem hi, Option.getD_some]
    exact List.getElem_mem hi
  · rcases snoc_casesU (c :: m) with h2 | ⟨r, w, h2⟩
    · simp at h2
    · rw [h2] at h hk
      have e : ((r ++ [w]).length : Int) - 1 = r.length := by simp
      rw [e, at_last] at h
      exact hk w r rfl ((u8_eq (n := 48) (by omega)).1 h)

theorem ofF_len (n e : Int) (h0 : -9223372036854775808 ≤ n) (h1 : n ≤ 9223372036854775807) : (ofF n e).2.1.length ≤ 1000 := by
  have h := dec_len n.natAbs 19 (by omega) (by omega)
  have h2 := tR_len (Lib.decDigits n.natAbs)
  have h3 := tL_len (tR (Lib.decDigits n.natAbs))
  unfold ofF normF
  repeat' split
  all_goals first | decide | (dsimp only; omega)

theorem ofF_right (n e : Int) (h0 : -9223372036854775808 ≤ n) (h1 : n ≤ 9223372036854775807) (he : -900 ≤ e) (he1 : e ≤ 900) : RightP (ofF n e).1 (ofF n e).2.1 (ofF n e).2.2 := by
  by_cases h : n = 0
  · subst h
    rw [ofF_zero]
    decide
  · obtain ⟨e1, e2⟩ := ofF_num h (e := e) (by omega) he he1
    rw [e1]
    exact e2

/-- The whole number that a decimal is. -/
def intF (neg : Bool) (s : List UInt8) (e : Int) : Int × Bool :=
  if ¬ RightP neg s e ∨ e < 0 ∨ 19 < s.length + e then (0, false)
  else if 4611686018427387904 < numL (s ++ zs e.toNat) then (0, false)
  else if neg = true then (-(numL (s ++ zs e.toNat) : Int), true) else ((numL (s ++ zs e.toNat) : Int), true)

theorem intF_of (n : Int) (h0 : -4611686018427387904 ≤ n) (h1 : n ≤ 4611686018427387904) : intF (ofF n 0).1 (ofF n 0).2.1 (ofF n 0).2.2 = (n, true) := by
  by_cases h : n = 0
  · subst h
    rw [ofF_zero]
    rfl
  · obtain ⟨e1, e2⟩ := ofF_num h (e := 0) (by omega) (by omega) (by omega)
    rw [e1]
    have hs := tR_split (Lib.decDigits n.natAbs)
    have hn := dec_num n.natAbs
    have hl := dec_len n.natAbs 19 (by omega) (by omega)
    have hlen := tR_len (Lib.decDigits n.natAbs)
    generalize Lib.decDigits n.natAbs = D at *
    dsimp only
    unfold intF
    rw [if_neg (fun h => h.elim (fun h => h e2) (fun h => by omega)), show (0 + ((D.length : Int) - (tR D).length)).toNat = D.length - (tR D).length by omega, ← hs, hn, if_neg (by omega)]
    by_cases hn0 : n < 0
    · rw [if_pos (decide_eq_true hn0)]
      congr 1
      omega
    · rw [if_neg (by simp; omega)]
      congr 1
      omega

theorem ofF_ten (a e : Int) (h0 : -900 ≤ e) (h1 : e ≤ 900) : ofF (a * 10) (e - 1) = ofF a e := by
  by_cases h : a = 0
  · subst h
    rw [show (0 : Int) * 10 = 0 by omega, ofF_zero, ofF_zero]
  · unfold ofF
    rw [if_neg (by omega), if_neg (by omega), show (a * 10).natAbs = 10 * a.natAbs by omega, dec_ten _ (by omega)]
    have hlen := tR_len (Lib.decDigits a.natAbs)
    unfold normF
    rw [tR_snoc_eq, List.length_append, List.length_singleton]
    have : decide (a * 10 < 0) = decide (a < 0) := decide_eq_decide.2 (by omega)
    rw [this, show e - 1 + (((Lib.decDigits a.natAbs).length + 1 : Nat) - ((tR (Lib.decDigits a.natAbs)).length : Int)) = e + ((Lib.decDigits a.natAbs).length - (tR (Lib.decDigits a.natAbs)).length) by omega]

/-! ### Numbers of one power of ten lie as the numbers do -/

theorem pad_zs (s : List UInt8) (n j : Nat) : pad (s ++ zs n) j = pad s j := by
  unfold pad
  by_cases h : j < s.length
  · rw [if_pos h, if_pos (by simp; omega)]
    unfold at'
    simp only [Int.toNat_natCast, List.getD_eq_getElem?_getD]
    rw [List.getElem?_append_left h]
  · rw [if_neg h]
    split
    · rename_i h2
      unfold at'
      simp only [Int.toNat_natCast, List.getD_eq_getElem?_getD]
      rw [List.getElem?_append_right (by omega)]
      simp only [List.length_append, List.length_replicate] at h2
      unfold zs
      rw [List.getElem?_replicate, if_pos (by omega)]
      rfl
    · rfl

theorem cmpInt_lt {a b : Int} (h : a < b) : Lib.compareInt a b = -1 := by unfold Lib.compareInt; rw [if_pos h]
theorem cmpInt_gt {a b : Int} (h : b < a) : Lib.compareInt a b = 1 := by unfold Lib.compareInt; rw [if_neg (by omega), if_pos h]
theorem cmpInt_eq {a b : Int} (h : a = b) : Lib.compareInt a b = 0 := by unfold Lib.compareInt; rw [if_neg (by omega), if_neg (by omega)]

/-- Of digits as many as of the others, the first that differs tells. -/
theorem ord_num : ∀ (x y : List UInt8) (f g : Int → Int) (p : Int), x.length = y.length → (∀ c ∈ x, isD c = true) → (∀ c ∈ y, isD c = true) → (∀ j : Nat, f (p - j) = pad x j) → (∀ j : Nat, g (p - j) = pad y j) →
    ordG f g x.length p = Lib.compareInt (numL x) (numL y)
  | [], [], f, g, p, _, _, _, _, _ => rfl
  | [], _ :: _, f, g, p, h, _, _, _, _ => by simp at h
  | _ :: _, [], f, g, p, h, _, _, _, _ => by simp at h
  | c :: x, d :: y, f, g, p, hl, hx, hy, hf, hg => by
    have hl2 : x.length = y.length := by simpa using hl
    have c1 := isD_nat (hx c (by simp))
    have d1 := isD_nat (hy d (by simp))
    have lx := numL_lt x fun c hc => hx c (by simp [hc])
    have ly := numL_lt y fun c hc => hy c (by simp [hc])
    have f0 := hf 0
    have g0 := hg 0
    rw [pad_cons0] at f0 g0
    simp only [Int.natCast_zero, Int.sub_zero] at f0 g0
    have ih := ord_num x y f g (p - 1) hl2 (fun c hc => hx c (by simp [hc])) (fun c hc => hy c (by simp [hc]))
      (fun j => by
        have := hf (j + 1)
        rw [pad_cons] at this
        rw [← this]
        congr 1
        omega)
      (fun j => by
        have := hg (j + 1)
        rw [pad_cons] at this
        rw [← this]
        congr 1
        omega)
    rw [List.length_cons, numL_cons, numL_cons, ordG, f0, g0, ih, ← hl2]
    rw [← hl2] at ly
    generalize 10 ^ x.length = t at *
    by_cases h1 : c.toNat < d.toNat
    · have : (c.toNat - 48 + 1) * t ≤ (d.toNat - 48) * t := Nat.mul_le_mul_right _ (by omega)
      rw [Nat.add_mul, Nat.one_mul] at this
      rw [if_pos (by omega), cmpInt_lt (by omega)]
    · by_cases h2 : d.toNat < c.toNat
      · have : (d.toNat - 48 + 1) * t ≤ (c.toNat - 48) * t := Nat.mul_le_mul_right _ (by omega)
        rw [Nat.add_mul, Nat.one_mul] at this
        rw [if_neg (by omega), if_pos (by omega), cmpInt_gt (by omega)]
      · rw [if_neg (by omega), if_neg (by omega), show c.toNat = d.toNat by omega]
        unfold Lib.compareInt
        generalize (d.toNat - 48) * t = z
        repeat' split
        all_goals omega

theorem size_num (x y : List UInt8) (hx : ∀ c ∈ x, isD c = true) (hy : ∀ c ∈ y, isD c = true) (fx : ∃ c l, x = c :: l ∧ ¬ c = 48) (fy : ∃ c l, y = c :: l ∧ ¬ c = 48) (e : Int) :
    sizeF (tR x) (e + (x.length - (tR x).length)) (tR y) (e + (y.length - (tR y).length)) = Lib.compareInt (numL x) (numL y) := by
  have lx := numL_lt x hx
  have ly := numL_lt y hy
  have sx := tR_split x
  have sy := tR_split y
  have kx := tR_lastOk x
  have ky := tR_lastOk y
  have nx := tR_len x
  have ny := tR_len y
  unfold sizeF
  rw [show ((tR x).length : Int) + (e + (x.length - (tR x).length)) = e + x.length by omega, show ((tR y).length : Int) + (e + (y.length - (tR y).length)) = e + y.length by omega]
  by_cases h1 : x.length < y.length
  · obtain ⟨c, l, rfl, hc⟩ := fy
    have := numL_ge (l := l) (hy c (by simp)) hc
    have h2 : 10 ^ x.length ≤ 10 ^ l.length := Nat.pow_le_pow_right (by decide) (by simp at h1; omega)
    rw [cmpInt_lt (by omega), if_neg (by decide), cmpInt_lt (by omega)]
  · by_cases h2 : y.length < x.length
    · obtain ⟨c, l, rfl, hc⟩ := fx
      have := numL_ge (l := l) (hx c (by simp)) hc
      have h2 : 10 ^ y.length ≤ 10 ^ l.length := Nat.pow_le_pow_right (by decide) (by simp at h2; omega)
      rw [cmpInt_gt (by omega), if_neg (by decide), cmpInt_gt (by omega)]
    · rw [cmpInt_eq (by omega), if_pos rfl]
      have dx : digs (tR x) := fun i hi => isD_iff.1 (hx _ (tR_mem (by
        simp only [Int.toNat_natCast, List.getD_eq_getElem?_getD, List.getElem?_eq_getElem hi, Option.getD_some]
        exact List.getElem_mem hi)))
      have dy : digs (tR y) := fun i hi => isD_iff.1 (hy _ (tR_mem (by
        simp only [Int.toNat_natCast, List.getD_eq_getElem?_getD, List.getElem?_eq_getElem hi, Option.getD_some]
        exact List.getElem_mem hi)))
      have k1 := cmp_pad (tR x) (tR y) x.length (fun q => pad x (-q).toNat) (fun q => pad y (-q).toNat) 0 dx dy kx ky (by omega) (by omega)
        (fun j => by
          show pad x (-(0 - (j : Int))).toNat = _
          rw [show (-(0 - (j : Int))).toNat = j by omega]
          conv => lhs; rw [sx]
          exact pad_zs ..)
        (fun j => by
          show pad y (-(0 - (j : Int))).toNat = _
          rw [show (-(0 - (j : Int))).toNat = j by omega]
          conv => lhs; rw [sy]
          exact pad_zs ..)
      have k2 := ord_num x y (fun q => pad x (-q).toNat) (fun q => pad y (-q).toNat) 0 (by omega) hx hy
        (fun j => by
          show pad x (-(0 - (j : Int))).toNat = _
          rw [show (-(0 - (j : Int))).toNat = j by omega])
        (fun j => by
          show pad y (-(0 - (j : Int))).toNat = _
          rw [show (-(0 - (j : Int))).toNat = j by omega])
      rw [← k2, ← k1]

theorem order_num (a b e : Int) (ha : a.natAbs < 10 ^ 19) (hb : b.natAbs < 10 ^ 19) (h0 : -900 ≤ e) (h1 : e ≤ 900) :
    orderF (ofF a e).1 (ofF a e).2.1 (ofF a e).2.2 (ofF b e).1 (ofF b e).2.1 (ofF b e).2.2 = Lib.compareInt a b := by
  have sg : ∀ n : Int, n.natAbs < 10 ^ 19 → signF (ofF n e).1 (ofF n e).2.1 = if n = 0 then 0 else if n < 0 then -1 else 1 := fun n hn => by
    by_cases h : n = 0
    · subst h
      rw [ofF_zero]
      rfl
    · obtain ⟨e1, e2⟩ := ofF_num h (e := e) hn h0 h1
      rw [e1, if_neg h]
      obtain ⟨c, l, hc, hc2⟩ := dec_first n.natAbs (by omega)
      obtain ⟨m, hm⟩ := tR_first (l := l) hc2
      rw [← hc] at hm
      unfold signF
      dsimp only
      rw [hm, if_neg (by simp)]
      simp
  unfold orderF
  rw [sg a ha, sg b hb]
  by_cases hz : a = 0
  · rw [if_pos hz, if_pos (.inr rfl)]
    unfold Lib.compareInt
    repeat' split
    all_goals omega
  · rw [if_neg hz]
    by_cases hs : (if a < 0 then (-1 : Int) else 1) = if b = 0 then 0 else if b < 0 then -1 else 1
    · have hb0 : ¬ b = 0 := fun h => by
        rw [if_pos h] at hs
        split at hs <;> omega
      rw [if_neg hb0] at hs ⊢
      rw [if_neg (by
        rintro (h | h)
        · exact h hs
        · split at h <;> omega)]
      rw [(ofF_num hz ha h0 h1).1, (ofF_num hb0 hb h0 h1).1]
      dsimp only
      rw [size_num _ _ (dec_isD _) (dec_isD _) (dec_first _ (by omega)) (dec_first _ (by omega)), dec_num, dec_num]
      unfold Lib.compareInt
      by_cases h2 : a < 0
      · have : b < 0 := by
          rw [if_pos h2] at hs
          split at hs <;> omega
        rw [if_pos h2]
        repeat' split
        all_goals omega
      · have : ¬ b < 0 := by
          rw [if_neg h2] at hs
          split at hs <;> omega
        rw [if_neg h2]
        repeat' split
        all_goals omega
    · rw [if_pos (.inl hs)]
      unfold Lib.compareInt
      by_cases h2 : a < 0
      · rw [if_pos h2] at hs ⊢
        repeat' split
        all_goals (repeat' split at hs)
        all_goals omega
      · rw [if_neg h2] at hs ⊢
        repeat' split
        all_goals (repeat' split at hs)
        all_goals omega

end Go.Proofs.YteidmimpkipcfaaDoor.Flow

/- WHOLE: whole numbers among the bits of doubles, in plain words. -/
namespace Go.Proofs.YteidmimpkipcfaaDoor.Flow
open Go

/-- A number below 1 halved, as long as it is even. -/
def hvG : Nat → Nat → Int → Nat × Int
  | 0, m, e => (m, e)
  | k + 1, m, e => if e < 0 ∧ m % 2 = 0 ∧ 0 < m then hvG k (m / 2) (e + 1) else (m, e)

theorem hvG_fuel : ∀ (k k' m : Nat) (e : Int), m ≤ k → m ≤ k' → hvG k m e = hvG k' m e
  | 0, 0, m, e, _, _ => rfl
  | 0, k' + 1, m, e, h, _ => by
    unfold hvG
    rw [if_neg (by omega)]
  | k + 1, 0, m, e, _, h => by
    unfold hvG
    rw [if_neg (by omega)]
  | k + 1, k' + 1, m, e, h, h' => by
    unfold hvG
    split
    · exact hvG_fuel k k' (m / 2) (e + 1) (by omega) (by omega)
    · rfl

def hv (m : Nat) (e : Int) : Nat × Int := hvG m m e
theorem hv_stop {m : Nat} {e : Int} (h : ¬ (e < 0 ∧ m % 2 = 0 ∧ 0 < m)) : hv m e = (m, e) := by
  unfold hv
  cases m with
  | zero => rfl
  | succ m =>
    unfold hvG
    rw [if_neg h]
theorem hv_step {m : Nat} {e : Int} (h : e < 0 ∧ m % 2 = 0 ∧ 0 < m) : hv m e = hv (m / 2) (e + 1) := by
  unfold hv
  cases m with
  | zero => omega
  | succ m =>
    conv => lhs; unfold hvG
    rw [if_pos h]
    exact hvG_fuel _ _ _ _ (by omega) (Nat.le_refl _)

theorem hv_pow (n : Nat) (hn : 0 < n) : ∀ (j : Nat), hv (n * 2 ^ j) (-(j : Int)) = (n, 0)
  | 0 => by
    rw [hv_stop (by omega)]
    simp
  | j + 1 => by
    have e : n * 2 ^ (j + 1) = 2 * (n * 2 ^ j) := by rw [Nat.pow_succ, ← Nat.mul_assoc, Nat.mul_comm]
    have hp : 0 < n * 2 ^ j := Nat.mul_pos hn (Nat.two_pow_pos j)
    rw [hv_step (by rw [e]; omega), e, show 2 * (n * 2 ^ j) / 2 = n * 2 ^ j by omega, show -((j + 1 : Nat) : Int) + 1 = -(j : Int) by omega]
    exact hv_pow n hn j

/-- The whole number up to 2^53 that m times 2 to the e is. -/
def whF (r : Nat × Int) : Option Nat :=
  if r.1 = 0 then some 0 else if r.2 < 0 then none else if 9007199254740992 < r.1 * 2 ^ r.2.toNat then none else some (r.1 * 2 ^ r.2.toNat)

/-- The whole number that bits are. -/
def wholeF (b : Nat) : Option Int :=
  if xP b = 2047 then none
  else match whF (hv (mB (b % 9223372036854775808)) (eB (b % 9223372036854775808))) with
    | none => none
    | some n => some (if 9223372036854775808 ≤ b then -(n : Int) else n)

theorem whF_le {r : Nat × Int} {n : Nat} (h : whF r = some n) : n ≤ 9007199254740992 := by
  unfold whF at h
  repeat' split at h
  all_goals first | (cases h; done) | (have := Option.some.inj h; omega)

theorem wholeF_range {b : Nat} {n : Int} (h : wholeF b = some n) : -9007199254740992 ≤ n ∧ n ≤ 9007199254740992 := by
  unfold wholeF at h
  split at h
  · cases h
  · split at h
    · cases h
    · rename_i k hk
      have := whF_le hk
      have h := Option.some.inj h
      split at h <;> omega

/-- A whole number's text, if there is one. -/
def wText : Option Int → List UInt8 × Bool
  | none => ([], false)
  | some n => (textF (ofF n 0).1 (ofF n 0).2.1 (ofF n 0).2.2, true)

/-! ### The number's own bits -/

theorem pow_between : ∀ n : Nat, 0 < n → ∃ k, 2 ^ k ≤ n ∧ n < 2 ^ (k + 1) := by
  intro n
  induction n using Nat.strongRecOn with
  | ind n ih =>
    intro h
    by_cases h1 : n = 1
    · exact ⟨0, by omega, by omega⟩
    · obtain ⟨k, h2, h3⟩ := ih (n / 2) (by omega) (by omega)
      refine ⟨k + 1, ?_, ?_⟩
      · rw [Nat.pow_succ]
        omega
      · rw [Nat.pow_succ]
        omega

theorem pow_aux {k : Nat} (h : k < 53) : max (k + 1023) 1 = k + 1023 ∧ 52 - k + (k + 1023) = 1075 := by omega

theorem tw_add (a b : Nat) : tw a * tw b = tw (a + b) := (Nat.pow_add 2 a b).symm

/-- A number from 1 to 2^53 has bits of its own. -/
theorem own_bits (n : Nat) (h0 : 0 < n) (h1 : n ≤ 9007199254740992) : ∃ b : Nat, xB b < 2047 ∧ wB b = n * tw 1075 ∧ whF (hv (mB b) (eB b)) = some n := by
  obtain ⟨k, h2, h3⟩ := pow_between n h0
  have hk : k ≤ 53 := by
    rcases Nat.lt_or_ge 53 k with h | h
    · have := Nat.pow_le_pow_right (show 0 < 2 by decide) (show 54 ≤ k from h)
      omega
    · exact h
  rcases Nat.lt_or_ge k 53 with hlt | hge
  · have e52 : (4503599627370496 : Nat) = 2 ^ k * 2 ^ (52 - k) := by
      rw [← Nat.pow_add, show k + (52 - k) = 52 by omega]
    have hm1 : 4503599627370496 ≤ n * 2 ^ (52 - k) := by
      rw [e52]
      exact Nat.mul_le_mul_right _ h2
    have hm2 : n * 2 ^ (52 - k) < 9007199254740992 := by
      have : (9007199254740992 : Nat) = 2 ^ (k + 1) * 2 ^ (52 - k) := by
        rw [← Nat.pow_add, show k + 1 + (52 - k) = 53 by omega]
      rw [this]
      exact Nat.mul_lt_mul_of_pos_right h3 (Nat.two_pow_pos _)
    generalize hM : n * 2 ^ (52 - k) = M at *
    have hx : xB ((k + 1023) * 4503599627370496 + (M - 4503599627370496)) = k + 1023 := by
      unfold xB
      omega
    have hm : mB ((k + 1023) * 4503599627370496 + (M - 4503599627370496)) = M := by
      unfold mB
      rw [hx, if_neg (by omega)]
      omega
    refine ⟨(k + 1023) * 4503599627370496 + (M - 4503599627370496), by rw [hx]; omega, ?_, ?_⟩
    · unfold wB uB
      obtain ⟨q1, q2⟩ := pow_aux hlt
      have q3 : (2 : Nat) ^ (52 - k) = tw (52 - k) := rfl
      rw [hm, hx, q1, ← hM, Nat.mul_assoc, q3, tw_add, q2]
    · have he : eB ((k + 1023) * 4503599627370496 + (M - 4503599627370496)) = -((52 - k : Nat) : Int) := by
        unfold eB
        rw [hx, if_neg (by omega)]
        omega
      rw [hm, he, ← hM, hv_pow n h0 (52 - k)]
      unfold whF
      rw [if_neg (by dsimp only; omega), if_neg (by dsimp only; omega)]
      dsimp only
      rw [show (0 : Int).toNat = 0 from rfl, Nat.pow_zero, Nat.mul_one, if_neg (by omega)]
  · obtain rfl : k = 53 := by omega
    obtain rfl : n = 9007199254740992 := by omega
    have hx : xB (1076 * 4503599627370496) = 1076 := by decide
    have hm : mB (1076 * 4503599627370496) = 4503599627370496 := by decide
    refine ⟨1076 * 4503599627370496, by rw [hx]; decide, ?_, by decide⟩
    unfold wB uB
    rw [hm, hx, show max 1076 1 = 1076 by decide, show (4503599627370496 : Nat) = tw 52 by decide, show (9007199254740992 : Nat) = tw 53 by decide, tw_add, tw_add]

/-- Its own bits are the nearest. -/
theorem ro_own {n b : Nat} (hx : xB b < 2047) (hw : wB b = n * tw 1075) : roB n 1 = b := by
  obtain ⟨f1, f2, f3, _⟩ := flB_ok n 1
  rw [Nat.one_mul, ← hw] at f2
  have hfl : flB n 1 = b := by
    rcases Nat.lt_trichotomy (flB n 1) b with h | h | h
    · have hle : flB n 1 + 1 ≤ b := h
      have h1 : xB (flB n 1 + 1) < 2047 := by
        have : xB (flB n 1 + 1) ≤ xB b := Nat.div_le_div_right hle
        omega
      have h2 := f3 h1
      have h3 := w_mono hle
      rw [Nat.one_mul, ← hw] at h2
      omega
    · exact h
    · have h3 := w_mono (show b + 1 ≤ flB n 1 from h)
      have h4 := w_succ b
      have h5 := h_lt_u b
      omega
  unfold roB
  rw [hfl, if_neg]
  rw [up_iff, Nat.one_mul, ← hw]
  have := hB_pos b
  omega

theorem not_over {n : Nat} (h : n ≤ 9007199254740992) : ¬ overB n 1 := by
  rw [over_iff, Nat.one_mul]
  have h0 : ∀ a b : Nat, a ≤ b → tw a ≤ tw b := fun a b h => Nat.pow_le_pow_right (by decide) h
  have h1 := h0 1075 2045 (by decide)
  have h2 : 18014398509481983 * tw 1075 ≤ 18014398509481983 * tw 2045 := Nat.mul_le_mul_left _ h1
  have h3 : n * tw 1075 ≤ 9007199254740992 * tw 1075 := Nat.mul_le_mul_right _ h
  have h4 : 9007199254740992 * tw 1075 < 18014398509481983 * tw 1075 := Nat.mul_lt_mul_of_pos_right (by decide) (tw_pos _)
  omega

theorem dgV_num (s : List UInt8) : dgV s = numL s := rfl

theorem num_zs (s : List UInt8) (z : Nat) : numL (s ++ zs z) = numL s * 10 ^ z := by
  unfold numL
  rw [numA_app]
  generalize numA 0 s = a
  induction z generalizing a with
  | zero => simp [numA_nil]
  | succ z ih =>
    have e : zs (z + 1) = 48 :: zs z := List.replicate_succ
    rw [e, numA_cons, ih, Nat.pow_succ, show (48 : UInt8).toNat - 48 = 0 from rfl, Nat.add_zero, Nat.mul_comm 10 a, Nat.mul_assoc, Nat.mul_comm 10]

/-- The bits of a whole number up to 2^53 are that number. -/
theorem whole_of (n : Int) (h0 : -9007199254740992 ≤ n) (h1 : n ≤ 9007199254740992) :
    ¬ overB (numV (ofF n 0).2.1 (ofF n 0).2.2) (denV (ofF n 0).2.2) ∧ wholeF (bitsV (ofF n 0).1 (ofF n 0).2.1 (ofF n 0).2.2) = some n ∧ bitsV (ofF n 0).1 (ofF n 0).2.1 (ofF n 0).2.2 < 18446744073709551616 := by
  by_cases hz : n = 0
  · subst hz
    rw [ofF_zero]
    have hb : bitsV false [] 0 = 0 := by
      have : roB 0 1 = 0 := ro_own (n := 0) (b := 0) (by decide) (by rw [w_zero, Nat.zero_mul])
      have q1 : numV [] 0 = 0 := by decide
      have q2 : denV 0 = 1 := by decide
      unfold bitsV
      rw [q1, q2, this, if_neg (by simp)]
    refine ⟨?_, ?_, ?_⟩
    · have q1 : numV [] 0 = 0 := by decide
      have q2 : denV 0 = 1 := by decide
      dsimp only
      rw [q1, q2]
      exact not_over (by decide)
    · rw [hb]
      unfold wholeF
      rw [if_neg (by decide), show mB (0 % 9223372036854775808) = 0 by decide, hv_stop (by omega)]
      rfl
    · rw [hb]
      decide
  · obtain ⟨e1, e2⟩ := ofF_num hz (e := 0) (by omega) (by omega) (by omega)
    rw [e1]
    have hs := tR_split (Lib.decDigits n.natAbs)
    have hn := dec_num n.natAbs
    have hlen := tR_len (Lib.decDigits n.natAbs)
    obtain ⟨c, l, hc, hc2⟩ := dec_first n.natAbs (by omega)
    obtain ⟨m, hm⟩ := tR_first (l := l) hc2
    rw [← hc] at hm
    generalize Lib.decDigits n.natAbs = D at *
    dsimp only
    have hz2 : (0 + ((D.length : Int) - (tR D).length)).toNat = D.length - (tR D).length := by omega
    have hnum : numV (tR D) (0 + ((D.length : Int) - (tR D).length)) = n.natAbs := by
      unfold numV
      rw [hz2, dgV_num, ← num_zs, ← hs, hn]
    have hden : denV (0 + ((D.length : Int) - (tR D).length)) = 1 := by
      unfold denV
      rw [show (-(0 + ((D.length : Int) - (tR D).length))).toNat = 0 by omega]
    rw [hnum, hden]
    refine ⟨not_over (by omega), ?_⟩
    obtain ⟨b, b1, b2, b3⟩ := own_bits n.natAbs (by omega) (by omega)
    have hr := ro_own b1 b2
    have hb63 : b < 9223372036854775808 := by
      unfold xB at b1
      omega
    have hv : bitsV (decide (n < 0)) (tR D) (0 + ((D.length : Int) - (tR D).length)) = b + (if n < 0 then 9223372036854775808 else 0) := by
      unfold bitsV
      rw [hnum, hden, hr, hm]
      by_cases hneg : n < 0
      · rw [if_pos ⟨decide_eq_true hneg, by simp⟩, if_pos hneg]
      · rw [if_neg (by simp [hneg]), if_neg hneg]
    rw [hv]
    have hmod : (b + (if n < 0 then 9223372036854775808 else 0)) % 9223372036854775808 = b := by split <;> omega
    have hxp : xP (b + (if n < 0 then 9223372036854775808 else 0)) = xB b := by
      unfold xP xB
      split <;> omega
    refine ⟨?_, by split <;> omega⟩
    unfold wholeF
    rw [hxp, if_neg (by omega), hmod, b3]
    dsimp only
    by_cases hneg : n < 0
    · rw [if_pos hneg, if_pos (by omega)]
      congr 1
      omega
    · rw [if_neg hneg, if_neg (by omega)]
      congr 1
      omega

end Go.Proofs.YteidmimpkipcfaaDoor.Flow

/- LIBS: numbers as texts, by the table of powers of ten. -/
namespace Go.Proofs.YteidmimpkipcfaaDoor.Flow
open Go

/-- The table of powers of ten lies as it is told. -/
theorem pow10_is {S : Cells} {w : World} (hg : GOk S w) : Lib.TabIs Tryd.prog w "internal/strconv.uint64pow10" .u64 Lib.pow10Tab := by
  have hn : Tryd.prog.globalNamed "internal/strconv.uint64pow10" = some 2 := by kernel_rfl
  have h1 := hg.rel 2
  have h2 := (hg.len 2 20 rfl).2
  have h3 : ∀ j, j < 20 → w.cell? ⟨2, j, none⟩ = some (.int .u64 (powZ j)) := by
    cases h1 with
    | rn _ _ _ _ _ _ h => exact fun j hj => (h j hj).2
  have h0 := h3 0 (by decide)
  unfold Lib.TabIs
  simp only [World.var?, hn, Option.bind_some]
  cases hh : w.heap[2]? with
  | none => simp [World.cell?, hh] at h0
  | some o =>
    cases o with
    | cells cs t fr =>
      simp only [Option.some.injEq]
      have h4 : ∀ j, j < 20 → cs[j]? = some (.int .u64 (powZ j)) := fun j hj => by
        have := h3 j hj
        simpa [World.cell?, hh] using this
      have h5 : cs[20]? = none := by simpa [World.cell?, hh] using h2
      apply Array.ext_getElem?
      intro j
      by_cases hj : j < 20
      · rw [h4 j hj]
        simp [Lib.pow10Tab, hj, powZ]
      · have : cs.size ≤ 20 := by simpa using h5
        rw [Array.getElem?_eq_none (by omega), Array.getElem?_eq_none (by simp [Lib.pow10Tab]; omega)]
    | _ => simp [World.cell?, hh] at h0

theorem itoa_ctr (n : Int) (h0 : -9223372036854775808 ≤ n) (h1 : n ≤ 9223372036854775807) : Ctr Tryd.prog 50 [.i .i64 n] (.s (Lib.itoa n)) := by
  intro w S vs hv hg hn hr
  have h := hr 0 (by simp)
  rw [one_of hn]
  generalize vs.getD 0 undef = v0 at *
  cases h
  refine (Tryd.strconv_Itoa n h0 h1 w (pow10_is hg)).mono ?_
  rintro e w' ⟨rfl, k, os, rfl⟩
  exact ⟨_, S, rfl, .s _ _, hist_below hv hg (below_grown w k os)⟩

end Go.Proofs.YteidmimpkipcfaaDoor.Flow

/- DEC: a decimal's text: the two functions. -/
namespace Go.Proofs.YteidmimpkipcfaaDoor.Flow
open Go

theorem text_bad (neg : Bool) (s : List UInt8) (e : Int) (hs : s.length ≤ 1048576) (h : ¬ RightP neg s e) : Ctr Tryd.prog 40 [dcD neg s e] (.s []) := by
  have c1 := right_ctr neg s e (by omega)
  rw [rightB_not h] at c1
  refine r_fun Tryd.func40 rfl Tryd.ntmps40 Tryd.results40 rfl rfl fun X hL hX => ?_
  repeat' (first
    | with_reducible refine t_seq ?_ | with_reducible refine t_region ?_ | with_reducible refine c_nil ?_ | with_reducible refine n_then ?_
    | with_reducible refine t_ret ?_ | with_reducible refine t_skip ?_ | with_reducible refine t_exit ?_ | with_reducible refine t_block ?_
    | with_reducible refine n_block ?_ | with_reducible refine e_then ?_ | with_reducible refine x_then ?_ | with_reducible refine x_block ?_ | with_reducible refine t_draw ?_
    | refine r_val rfl rfl True.intro ?_ | refine r_gskip rfl rfl rfl ?_ | refine r_gskip2 rfl rfl rfl ?_ | refine r_gval rfl rfl rfl rfl True.intro ?_
    | refine t_true rfl ?_ | refine t_false rfl ?_
    | ((first | refine t_cond_d rfl (fun _ => ?_) (fun _ => ?_) | refine t_cond_i rfl (fun _ => ?_) (fun _ => ?_) | refine t_cond_j rfl (fun _ => ?_) (fun _ => ?_) | refine t_cond_s rfl (fun _ => ?_) (fun _ => ?_) | refine t_cond_n rfl (fun _ => ?_) (fun _ => ?_) | refine t_cond rfl (fun _ => ?_) (fun _ => ?_) | refine c_split_d rfl rfl (fun _ => ?_) (fun _ => ?_) | refine c_split_i rfl rfl (fun _ => ?_) (fun _ => ?_) | refine c_split_j rfl rfl (fun _ => ?_) (fun _ => ?_) | refine c_split_s rfl rfl (fun _ => ?_) (fun _ => ?_) | refine c_split_n rfl rfl (fun _ => ?_) (fun _ => ?_)) <;> try (first | contradiction | (exfalso; omega)))
    | refine r_val rfl rfl (by (first | omega | exact Nat.le_of_ble_eq_true rfl | (simp only [wrap_u8, IntKind.wrap_i64, IntKind.wrap_i32, wrap_u32', wrap_u64', InI]; (repeat' refine And.intro ?_ ?_) <;> omega) | ((repeat' refine And.intro ?_ ?_) <;> first | omega | rfl | exact Nat.le_refl _ | exact Nat.le_of_ble_eq_true rfl | exact bytesF_one _) | (simp_all; done) | (simp_all; omega))) ?_ | refine r_gval rfl rfl rfl rfl (by (first | omega | exact Nat.le_of_ble_eq_true rfl | (simp only [wrap_u8, IntKind.wrap_i64, IntKind.wrap_i32, wrap_u32', wrap_u64', InI]; (repeat' refine And.intro ?_ ?_) <;> omega) | ((repeat' refine And.intro ?_ ?_) <;> first | omega | rfl | exact Nat.le_refl _ | exact Nat.le_of_ble_eq_true rfl | exact bytesF_one _) | (simp_all; done) | (simp_all; omega))) ?_
    | refine r_obj rfl rfl (by (first | omega | exact Nat.le_of_ble_eq_true rfl | (simp only [wrap_u8, IntKind.wrap_i64, IntKind.wrap_i32, wrap_u32', wrap_u64', InI]; (repeat' refine And.intro ?_ ?_) <;> omega) | ((repeat' refine And.intro ?_ ?_) <;> first | omega | rfl | exact Nat.le_refl _ | exact Nat.le_of_ble_eq_true rfl | exact bytesF_one _) | (simp_all; done) | (simp_all; omega))) ?_ | refine r_sto rfl (by (first | omega | exact Nat.le_of_ble_eq_true rfl | (simp only [wrap_u8, IntKind.wrap_i64, IntKind.wrap_i32, wrap_u32', wrap_u64', InI]; (repeat' refine And.intro ?_ ?_) <;> omega) | ((repeat' refine And.intro ?_ ?_) <;> first | omega | rfl | exact Nat.le_refl _ | exact Nat.le_of_ble_eq_true rfl | exact bytesF_one _) | (simp_all; done) | (simp_all; omega))) ?_ | refine r_gobj rfl rfl rfl rfl (by (first | omega | exact Nat.le_of_ble_eq_true rfl | (simp only [wrap_u8, IntKind.wrap_i64, IntKind.wrap_i32, wrap_u32', wrap_u64', InI]; (repeat' refine And.intro ?_ ?_) <;> omega) | ((repeat' refine And.intro ?_ ?_) <;> first | omega | rfl | exact Nat.le_refl _ | exact Nat.le_of_ble_eq_true rfl | exact bytesF_one _) | (simp_all; done) | (simp_all; omega))) ?_
    | refine e_hit rfl ?_ | refine e_miss rfl ?_
    | refine ⟨by kernel_rfl, ?_⟩ | refine x_end rfl ?_ | refine r_call (f := 46) rfl rfl Tryd.call46 rfl c1 ?_ | ((with_reducible refine c_grd ?_); (fail_if_success (refine c_lit true rfl rfl rfl ?_)); (fail_if_success (refine c_lit false rfl rfl rfl ?_)); refine c_split rfl rfl (fun _ => ?_) (fun _ => ?_)))
  rfl
theorem rtext_bad (neg : Bool) (s : List UInt8) (e : Int) (hs : s.length ≤ 1048576) (h : ¬ RightP neg s e) : Ctr Tryd.prog 10 [dcD neg s e] (.s []) := by
  have c1 := rright_ctr neg s e (by omega)
  rw [rightB_not h] at c1
  refine r_fun Tryd.func10 rfl Tryd.ntmps10 Tryd.results10 rfl rfl fun X hL hX => ?_
  repeat' (first
    | with_reducible refine t_seq ?_ | with_reducible refine t_region ?_ | with_reducible refine c_nil ?_ | with_reducible refine n_then ?_
    | with_reducible refine t_ret ?_ | with_reducible refine t_skip ?_ | with_reducible refine t_exit ?_ | with_reducible refine t_block ?_
    | with_reducible refine n_block ?_ | with_reducible refine e_then ?_ | with_reducible refine x_then ?_ | with_reducible refine x_block ?_ | with_reducible refine t_draw ?_
    | refine r_val rfl rfl True.intro ?_ | refine r_gskip rfl rfl rfl ?_ | refine r_gskip2 rfl rfl rfl ?_ | refine r_gval rfl rfl rfl rfl True.intro ?_
    | refine t_true rfl ?_ | refine t_false rfl ?_
    | ((first | refine t_cond_d rfl (fun _ => ?_) (fun _ => ?_) | refine t_cond_i rfl (fun _ => ?_) (fun _ => ?_) | refine t_cond_j rfl (fun _ => ?_) (fun _ => ?_) | refine t_cond_s rfl (fun _ => ?_) (fun _ => ?_) | refine t_cond_n rfl (fun _ => ?_) (fun _ => ?_) | refine t_cond rfl (fun _ => ?_) (fun _ => ?_) | refine c_split_d rfl rfl (fun _ => ?_) (fun _ => ?_) | refine c_split_i rfl rfl (fun _ => ?_) (fun _ => ?_) | refine c_split_j rfl rfl (fun _ => ?_) (fun _ => ?_) | refine c_split_s rfl rfl (fun _ => ?_) (fun _ => ?_) | refine c_split_n rfl rfl (fun _ => ?_) (fun _ => ?_)) <;> try (first | contradiction | (exfalso; omega)))
    | refine r_val rfl rfl (by (first | omega | exact Nat.le_of_ble_eq_true rfl | (simp only [wrap_u8, IntKind.wrap_i64, IntKind.wrap_i32, wrap_u32', wrap_u64', InI]; (repeat' refine And.intro ?_ ?_) <;> omega) | ((repeat' refine And.intro ?_ ?_) <;> first | omega | rfl | exact Nat.le_refl _ | exact Nat.le_of_ble_eq_true rfl | exact bytesF_one _) | (simp_all; done) | (simp_all; omega))) ?_ | refine r_gval rfl rfl rfl rfl (by (first | omega | exact Nat.le_of_ble_eq_true rfl | (simp only [wrap_u8, IntKind.wrap_i64, IntKind.wrap_i32, wrap_u32', wrap_u64', InI]; (repeat' refine And.intro ?_ ?_) <;> omega) | ((repeat' refine And.intro ?_ ?_) <;> first | omega | rfl | exact Nat.le_refl _ | exact Nat.le_of_ble_eq_true rfl | exact bytesF_one _) | (simp_all; done) | (simp_all; omega))) ?_
    | refine r_obj rfl rfl (by (first | omega | exact Nat.le_of_ble_eq_true rfl | (simp only [wrap_u8, IntKind.wrap_i64, IntKind.wrap_i32, wrap_u32', wrap_u64', InI]; (repeat' refine And.intro ?_ ?_) <;> omega) | ((repeat' refine And.intro ?_ ?_) <;> first | omega | rfl | exact Nat.le_refl _ | exact Nat.le_of_ble_eq_true rfl | exact bytesF_one _) | (simp_all; done) | (simp_all; omega))) ?_ | refine r_sto rfl (by (first | omega | exact Nat.le_of_ble_eq_true rfl | (simp only [wrap_u8, IntKind.wrap_i64, IntKind.wrap_i32, wrap_u32', wrap_u64', InI]; (repeat' refine And.intro ?_ ?_) <;> omega) | ((repeat' refine And.intro ?_ ?_) <;> first | omega | rfl | exact Nat.le_refl _ | exact Nat.le_of_ble_eq_true rfl | exact bytesF_one _) | (simp_all; done) | (simp_all; omega))) ?_ | refine r_gobj rfl rfl rfl rfl (by (first | omega | exact Nat.le_of_ble_eq_true rfl | (simp only [wrap_u8, IntKind.wrap_i64, IntKind.wrap_i32, wrap_u32', wrap_u64', InI]; (repeat' refine And.intro ?_ ?_) <;> omega) | ((repeat' refine And.intro ?_ ?_) <;> first | omega | rfl | exact Nat.le_refl _ | exact Nat.le_of_ble_eq_true rfl | exact bytesF_one _) | (simp_all; done) | (simp_all; omega))) ?_
    | refine e_hit rfl ?_ | refine e_miss rfl ?_
    | refine ⟨by kernel_rfl, ?_⟩ | refine x_end rfl ?_ | refine r_call (f := 42) rfl rfl Tryd.call42 rfl c1 ?_ | ((with_reducible refine c_grd ?_); (fail_if_success (refine c_lit true rfl rfl rfl ?_)); (fail_if_success (refine c_lit false rfl rfl rfl ?_)); refine c_split rfl rfl (fun _ => ?_) (fun _ => ?_)))
  rfl

section
variable {s : List UInt8} {e : Int}
theorem textU_1 (h : 0 ≤ e) (h2 : s.length + e ≤ 21) : textU s e = s ++ zs e.toNat := if_pos ⟨h, h2⟩
theorem textU_2 (h : ¬ (0 ≤ e ∧ s.length + e ≤ 21)) (h2 : 1 ≤ s.length + e) (h3 : s.length + e < s.length) : textU s e = s.take (s.length + e).toNat ++ [46] ++ s.drop (s.length + e).toNat := by
  unfold textU
  rw [if_neg h, if_pos ⟨h2, h3⟩]
theorem textU_3 (h : ¬ (0 ≤ e ∧ s.length + e ≤ 21)) (h2 : -6 ≤ s.length + e) (h3 : s.length + e ≤ 0) : textU s e = [48, 46] ++ zs (-(s.length + e)).toNat ++ s := by
  unfold textU
  rw [if_neg h, if_neg (by omega), if_pos ⟨h2, h3⟩]
theorem textU_4 (h : ¬ (0 ≤ e ∧ s.length + e ≤ 21)) (h2 : ¬ (1 ≤ s.length + e ∧ s.length + e < s.length)) (h3 : ¬ (-6 ≤ s.length + e ∧ s.length + e ≤ 0)) : textU s e = s.take 1 ++ (if 1 < s.length then [46] ++ s.drop 1 else []) ++ [101] ++ Lib.itoa (s.length + e - 1) := by
  unfold textU
  rw [if_neg h, if_neg h2, if_neg h3]
end

set_option maxHeartbeats 2000000 in
theorem text_ok (neg : Bool) (s : List UInt8) (e : Int) (h : RightP neg s e) (h0 : ¬ s.length = 0) : Ctr Tryd.prog 40 [dcD neg s e] (.s ((if neg = true then [45] else []) ++ textU s e)) := by
  obtain ⟨b1, b2, b3, b4⟩ := h.bounds
  have c1 := right_ctr neg s e (by omega)
  rw [rightB_iff.2 h] at c1
  have c2 := fun h => rep_ctr e h (by omega)
  have c3 := fun h => rep_ctr (-(s.length + e)) h (by omega)
  have c4 := itoa_ctr (s.length + e - 1) (by omega) (by omega)
  have l4 := itoa_len (s.length + e - 1) (by omega) (by omega)
  have u1 := fun h h2 => textU_1 (s := s) (e := e) h h2
  have u2 := fun h h2 h3 => textU_2 (s := s) (e := e) h h2 h3
  have u3 := fun h h2 h3 => textU_3 (s := s) (e := e) h h2 h3
  have u4 := fun h h2 h3 => textU_4 (s := s) (e := e) h h2 h3
  have lz : ∀ n : Nat, (zs n).length = n := fun n => by simp
  generalize textU s e = U at *
  generalize Lib.itoa (s.length + e - 1) = I at *
  clear h
  refine r_fun Tryd.func40 rfl Tryd.ntmps40 Tryd.results40 rfl rfl fun X hL hX => ?_
  cases neg with
  | false =>
    repeat' (first
      | with_reducible refine t_seq ?_ | with_reducible refine t_region ?_ | with_reducible refine c_nil ?_ | with_reducible refine n_then ?_
      | with_reducible refine t_ret ?_ | with_reducible refine t_skip ?_ | with_reducible refine t_exit ?_ | with_reducible refine t_block ?_
      | with_reducible refine n_block ?_ | with_reducible refine e_then ?_ | with_reducible refine x_then ?_ | with_reducible refine x_block ?_ | with_reducible refine t_draw ?_
      | refine r_val rfl rfl True.intro ?_ | refine r_gskip rfl rfl rfl ?_ | refine r_gskip2 rfl rfl rfl ?_ | refine r_gval rfl rfl rfl rfl True.intro ?_
      | refine t_true rfl ?_ | refine t_false rfl ?_
      | ((first | refine t_cond_d rfl (fun _ => ?_) (fun _ => ?_) | refine t_cond_i rfl (fun _ => ?_) (fun _ => ?_) | refine t_cond_j rfl (fun _ => ?_) (fun _ => ?_) | refine t_cond_s rfl (fun _ => ?_) (fun _ => ?_) | refine t_cond_n rfl (fun _ => ?_) (fun _ => ?_) | refine t_cond rfl (fun _ => ?_) (fun _ => ?_) | refine c_split_d rfl rfl (fun _ => ?_) (fun _ => ?_) | refine c_split_i rfl rfl (fun _ => ?_) (fun _ => ?_) | refine c_split_j rfl rfl (fun _ => ?_) (fun _ => ?_) | refine c_split_s rfl rfl (fun _ => ?_) (fun _ => ?_) | refine c_split_n rfl rfl (fun _ => ?_) (fun _ => ?_)) <;> try (first | (rename_i hz; exact Bool.noConfusion (show true = false from hz)) | (rename_i hz; exact Bool.noConfusion (show false = true from hz)) | (exfalso; omega)))
      | refine r_val rfl rfl (by (first | (simp only [List.length_append, List.length_drop, List.length_take, lz, Array.length_toList, List.size_toArray, List.length_cons, List.length_nil]; omega) | omega | exact Nat.le_of_ble_eq_true rfl | (simp only [wrap_u8, IntKind.wrap_i64, IntKind.wrap_i32, wrap_u32', wrap_u64', InI]; (repeat' refine And.intro ?_ ?_) <;> omega) | ((repeat' refine And.intro ?_ ?_) <;> first | omega | rfl | exact Nat.le_refl _ | exact Nat.le_of_ble_eq_true rfl | exact bytesF_one _) | (simp_all; done) | (simp_all; omega))) ?_ | refine r_gval rfl rfl rfl rfl (by (first | (simp only [List.length_append, List.length_drop, List.length_take, lz, Array.length_toList, List.size_toArray, List.length_cons, List.length_nil]; omega) | omega | exact Nat.le_of_ble_eq_true rfl | (simp only [wrap_u8, IntKind.wrap_i64, IntKind.wrap_i32, wrap_u32', wrap_u64', InI]; (repeat' refine And.intro ?_ ?_) <;> omega) | ((repeat' refine And.intro ?_ ?_) <;> first | omega | rfl | exact Nat.le_refl _ | exact Nat.le_of_ble_eq_true rfl | exact bytesF_one _) | (simp_all; done) | (simp_all; omega))) ?_
      | refine r_obj rfl rfl (by (first | (simp only [List.length_append, List.length_drop, List.length_take, lz, Array.length_toList, List.size_toArray, List.length_cons, List.length_nil]; omega) | omega | exact Nat.le_of_ble_eq_true rfl | (simp only [wrap_u8, IntKind.wrap_i64, IntKind.wrap_i32, wrap_u32', wrap_u64', InI]; (repeat' refine And.intro ?_ ?_) <;> omega) | ((repeat' refine And.intro ?_ ?_) <;> first | omega | rfl | exact Nat.le_refl _ | exact Nat.le_of_ble_eq_true rfl | exact bytesF_one _) | (simp_all; done) | (simp_all; omega))) ?_ | refine r_sto rfl (by (first | (simp only [List.length_append, List.length_drop, List.length_take, lz, Array.length_toList, List.size_toArray, List.length_cons, List.length_nil]; omega) | omega | exact Nat.le_of_ble_eq_true rfl | (simp only [wrap_u8, IntKind.wrap_i64, IntKind.wrap_i32, wrap_u32', wrap_u64', InI]; (repeat' refine And.intro ?_ ?_) <;> omega) | ((repeat' refine And.intro ?_ ?_) <;> first | omega | rfl | exact Nat.le_refl _ | exact Nat.le_of_ble_eq_true rfl | exact bytesF_one _) | (simp_all; done) | (simp_all; omega))) ?_ | refine r_gobj rfl rfl rfl rfl (by (first | (simp only [List.length_append, List.length_drop, List.length_take, lz, Array.length_toList, List.size_toArray, List.length_cons, List.length_nil]; omega) | omega | exact Nat.le_of_ble_eq_true rfl | (simp only [wrap_u8, IntKind.wrap_i64, IntKind.wrap_i32, wrap_u32', wrap_u64', InI]; (repeat' refine And.intro ?_ ?_) <;> omega) | ((repeat' refine And.intro ?_ ?_) <;> first | omega | rfl | exact Nat.le_refl _ | exact Nat.le_of_ble_eq_true rfl | exact bytesF_one _) | (simp_all; done) | (simp_all; omega))) ?_
      | refine e_hit rfl ?_ | refine e_miss rfl ?_
      | refine ⟨by kernel_rfl, ?_⟩ | refine x_end rfl ?_ | refine r_call (f := 46) rfl rfl Tryd.call46 rfl c1 ?_ | refine r_call (f := 83) rfl rfl Tryd.call83 rfl (c2 (by omega)) ?_ | refine r_call (f := 83) rfl rfl Tryd.call83 rfl (c3 (by omega)) ?_ | refine r_call (f := 50) rfl rfl Tryd.call50 rfl c4 ?_ | ((with_reducible refine c_grd ?_); (fail_if_success (refine c_lit true rfl rfl rfl ?_)); (fail_if_success (refine c_lit false rfl rfl rfl ?_)); refine c_split rfl rfl (fun _ => ?_) (fun _ => ?_)))
    · rw [u1 (by omega) (by omega)]
      exact congrArg D.s (by simp)
    · rw [u4 (by omega) (by omega) (by omega), if_pos (show 1 < s.length by omega)]
      exact congrArg D.s (by simp)
    · rw [u4 (by omega) (by omega) (by omega), if_neg (show ¬ 1 < s.length by omega)]
      exact congrArg D.s (by simp)
    · rw [u2 (by omega) (by omega) (by omega)]
      exact congrArg D.s (by simp)
    · rw [u3 (by omega) (by omega) (by omega)]
      exact congrArg D.s (by simp)
    · rw [u4 (by omega) (by omega) (by omega), if_pos (show 1 < s.length by omega)]
      exact congrArg D.s (by simp)
    · rw [u4 (by omega) (by omega) (by omega), if_neg (show ¬ 1 < s.length by omega)]
      exact congrArg D.s (by simp)
  | true =>
    repeat' (first
      | with_reducible refine t_seq ?_ | with_reducible refine t_region ?_ | with_reducible refine c_nil ?_ | with_reducible refine n_then ?_
      | with_reducible refine t_ret ?_ | with_reducible refine t_skip ?_ | with_reducible refine t_exit ?_ | with_reducible refine t_block ?_
      | with_reducible refine n_block ?_ | with_reducible refine e_then ?_ | with_reducible refine x_then ?_ | with_reducible refine x_block ?_ | with_reducible refine t_draw ?_
      | refine r_val rfl rfl True.intro ?_ | refine r_gskip rfl rfl rfl ?_ | refine r_gskip2 rfl rfl rfl ?_ | refine r_gval rfl rfl rfl rfl True.intro ?_
      | refine t_true rfl ?_ | refine t_false rfl ?_
      | ((first | refine t_cond_d rfl (fun _ => ?_) (fun _ => ?_) | refine t_cond_i rfl (fun _ => ?_) (fun _ => ?_) | refine t_cond_j rfl (fun _ => ?_) (fun _ => ?_) | refine t_cond_s rfl (fun _ => ?_) (fun _ => ?_) | refine t_cond_n rfl (fun _ => ?_) (fun _ => ?_) | refine t_cond rfl (fun _ => ?_) (fun _ => ?_) | refine c_split_d rfl rfl (fun _ => ?_) (fun _ => ?_) | refine c_split_i rfl rfl (fun _ => ?_) (fun _ => ?_) | refine c_split_j rfl rfl (fun _ => ?_) (fun _ => ?_) | refine c_split_s rfl rfl (fun _ => ?_) (fun _ => ?_) | refine c_split_n rfl rfl (fun _ => ?_) (fun _ => ?_)) <;> try (first | (rename_i hz; exact Bool.noConfusion (show true = false from hz)) | (rename_i hz; exact Bool.noConfusion (show false = true from hz)) | (exfalso; omega)))
      | refine r_val rfl rfl (by (first | (simp only [List.length_append, List.length_drop, List.length_take, lz, Array.length_toList, List.size_toArray, List.length_cons, List.length_nil]; omega) | omega | exact Nat.le_of_ble_eq_true rfl | (simp only [wrap_u8, IntKind.wrap_i64, IntKind.wrap_i32, wrap_u32', wrap_u64', InI]; (repeat' refine And.intro ?_ ?_) <;> omega) | ((repeat' refine And.intro ?_ ?_) <;> first | omega | rfl | exact Nat.le_refl _ | exact Nat.le_of_ble_eq_true rfl | exact bytesF_one _) | (simp_all; done) | (simp_all; omega))) ?_ | refine r_gval rfl rfl rfl rfl (by (first | (simp only [List.length_append, List.length_drop, List.length_take, lz, Array.length_toList, List.size_toArray, List.length_cons, List.length_nil]; omega) | omega | exact Nat.le_of_ble_eq_true rfl | (simp only [wrap_u8, IntKind.wrap_i64, IntKind.wrap_i32, wrap_u32', wrap_u64', InI]; (repeat' refine And.intro ?_ ?_) <;> omega) | ((repeat' refine And.intro ?_ ?_) <;> first | omega | rfl | exact Nat.le_refl _ | exact Nat.le_of_ble_eq_true rfl | exact bytesF_one _) | (simp_all; done) | (simp_all; omega))) ?_
      | refine r_obj rfl rfl (by (first | (simp only [List.length_append, List.length_drop, List.length_take, lz, Array.length_toList, List.size_toArray, List.length_cons, List.length_nil]; omega) | omega | exact Nat.le_of_ble_eq_true rfl | (simp only [wrap_u8, IntKind.wrap_i64, IntKind.wrap_i32, wrap_u32', wrap_u64', InI]; (repeat' refine And.intro ?_ ?_) <;> omega) | ((repeat' refine And.intro ?_ ?_) <;> first | omega | rfl | exact Nat.le_refl _ | exact Nat.le_of_ble_eq_true rfl | exact bytesF_one _) | (simp_all; done) | (simp_all; omega))) ?_ | refine r_sto rfl (by (first | (simp only [List.length_append, List.length_drop, List.length_take, lz, Array.length_toList, List.size_toArray, List.length_cons, List.length_nil]; omega) | omega | exact Nat.le_of_ble_eq_true rfl | (simp only [wrap_u8, IntKind.wrap_i64, IntKind.wrap_i32, wrap_u32', wrap_u64', InI]; (repeat' refine And.intro ?_ ?_) <;> omega) | ((repeat' refine And.intro ?_ ?_) <;> first | omega | rfl | exact Nat.le_refl _ | exact Nat.le_of_ble_eq_true rfl | exact bytesF_one _) | (simp_all; done) | (simp_all; omega))) ?_ | refine r_gobj rfl rfl rfl rfl (by (first | (simp only [List.length_append, List.length_drop, List.length_take, lz, Array.length_toList, List.size_toArray, List.length_cons, List.length_nil]; omega) | omega | exact Nat.le_of_ble_eq_true rfl | (simp only [wrap_u8, IntKind.wrap_i64, IntKind.wrap_i32, wrap_u32', wrap_u64', InI]; (repeat' refine And.intro ?_ ?_) <;> omega) | ((repeat' refine And.intro ?_ ?_) <;> first | omega | rfl | exact Nat.le_refl _ | exact Nat.le_of_ble_eq_true rfl | exact bytesF_one _) | (simp_all; done) | (simp_all; omega))) ?_
      | refine e_hit rfl ?_ | refine e_miss rfl ?_
      | refine ⟨by kernel_rfl, ?_⟩ | refine x_end rfl ?_ | refine r_call (f := 46) rfl rfl Tryd.call46 rfl c1 ?_ | refine r_call (f := 83) rfl rfl Tryd.call83 rfl (c2 (by omega)) ?_ | refine r_call (f := 83) rfl rfl Tryd.call83 rfl (c3 (by omega)) ?_ | refine r_call (f := 50) rfl rfl Tryd.call50 rfl c4 ?_ | ((with_reducible refine c_grd ?_); (fail_if_success (refine c_lit true rfl rfl rfl ?_)); (fail_if_success (refine c_lit false rfl rfl rfl ?_)); refine c_split rfl rfl (fun _ => ?_) (fun _ => ?_)))
    · rw [u1 (by omega) (by omega)]
      exact congrArg D.s (by simp)
    · rw [u4 (by omega) (by omega) (by omega), if_pos (show 1 < s.length by omega)]
      exact congrArg D.s (by simp)
    · rw [u4 (by omega) (by omega) (by omega), if_neg (show ¬ 1 < s.length by omega)]
      exact congrArg D.s (by simp)
    · rw [u2 (by omega) (by omega) (by omega)]
      exact congrArg D.s (by simp)
    · rw [u3 (by omega) (by omega) (by omega)]
      exact congrArg D.s (by simp)
    · rw [u4 (by omega) (by omega) (by omega), if_pos (show 1 < s.length by omega)]
      exact congrArg D.s (by simp)
    · rw [u4 (by omega) (by omega) (by omega), if_neg (show ¬ 1 < s.length by omega)]
      exact congrArg D.s (by simp)

set_option maxHeartbeats 2000000 in
theorem rtext_ok (neg : Bool) (s : List UInt8) (e : Int) (h : RightP neg s e) (h0 : ¬ s.length = 0) : Ctr Tryd.prog 10 [dcD neg s e] (.s ((if neg = true then [45] else []) ++ textU s e)) := by
  obtain ⟨b1, b2, b3, b4⟩ := h.bounds
  have c1 := rright_ctr neg s e (by omega)
  rw [rightB_iff.2 h] at c1
  have c2 := fun h => zeros_ctr e h (by omega)
  have c3 := fun h => zeros_ctr (-(s.length + e)) h (by omega)
  have c4 := rnum_ctr (s.length + e - 1) (by omega) (by omega)
  have l4 := itoa_len (s.length + e - 1) (by omega) (by omega)
  have u1 := fun h h2 => textU_1 (s := s) (e := e) h h2
  have u2 := fun h h2 h3 => textU_2 (s := s) (e := e) h h2 h3
  have u3 := fun h h2 h3 => textU_3 (s := s) (e := e) h h2 h3
  have u4 := fun h h2 h3 => textU_4 (s := s) (e := e) h h2 h3
  have lz : ∀ n : Nat, (zs n).length = n := fun n => by simp
  generalize textU s e = U at *
  generalize Lib.itoa (s.length + e - 1) = I at *
  clear h
  refine r_fun Tryd.func10 rfl Tryd.ntmps10 Tryd.results10 rfl rfl fun X hL hX => ?_
  cases neg with
  | false =>
    repeat' (first
      | with_reducible refine t_seq ?_ | with_reducible refine t_region ?_ | with_reducible refine c_nil ?_ | with_reducible refine n_then ?_
      | with_reducible refine t_ret ?_ | with_reducible refine t_skip ?_ | with_reducible refine t_exit ?_ | with_reducible refine t_block ?_
      | with_reducible refine n_block ?_ | with_reducible refine e_then ?_ | with_reducible refine x_then ?_ | with_reducible refine x_block ?_ | with_reducible refine t_draw ?_
      | refine r_val rfl rfl True.intro ?_ | refine r_gskip rfl rfl rfl ?_ | refine r_gskip2 rfl rfl rfl ?_ | refine r_gval rfl rfl rfl rfl True.intro ?_
      | refine t_true rfl ?_ | refine t_false rfl ?_
      | ((first | refine t_cond_d rfl (fun _ => ?_) (fun _ => ?_) | refine t_cond_i rfl (fun _ => ?_) (fun _ => ?_) | refine t_cond_j rfl (fun _ => ?_) (fun _ => ?_) | refine t_cond_s rfl (fun _ => ?_) (fun _ => ?_) | refine t_cond_n rfl (fun _ => ?_) (fun _ => ?_) | refine t_cond rfl (fun _ => ?_) (fun _ => ?_) | refine c_split_d rfl rfl (fun _ => ?_) (fun _ => ?_) | refine c_split_i rfl rfl (fun _ => ?_) (fun _ => ?_) | refine c_split_j rfl rfl (fun _ => ?_) (fun _ => ?_) | refine c_split_s rfl rfl (fun _ => ?_) (fun _ => ?_) | refine c_split_n rfl rfl (fun _ => ?_) (fun _ => ?_)) <;> try (first | (rename_i hz; exact Bool.noConfusion (show true = false from hz)) | (rename_i hz; exact Bool.noConfusion (show false = true from hz)) | (exfalso; omega)))
      | refine r_val rfl rfl (by (first | (simp only [List.length_append, List.length_drop, List.length_take, lz, Array.length_toList, List.size_toArray, List.length_cons, List.length_nil]; omega) | omega | exact Nat.le_of_ble_eq_true rfl | (simp only [wrap_u8, IntKind.wrap_i64, IntKind.wrap_i32, wrap_u32', wrap_u64', InI]; (repeat' refine And.intro ?_ ?_) <;> omega) | ((repeat' refine And.intro ?_ ?_) <;> first | omega | rfl | exact Nat.le_refl _ | exact Nat.le_of_ble_eq_true rfl | exact bytesF_one _) | (simp_all; done) | (simp_all; omega))) ?_ | refine r_gval rfl rfl rfl rfl (by (first | (simp only [List.length_append, List.length_drop, List.length_take, lz, Array.length_toList, List.size_toArray, List.length_cons, List.length_nil]; omega) | omega | exact Nat.le_of_ble_eq_true rfl | (simp only [wrap_u8, IntKind.wrap_i64, IntKind.wrap_i32, wrap_u32', wrap_u64', InI]; (repeat' refine And.intro ?_ ?_) <;> omega) | ((repeat' refine And.intro ?_ ?_) <;> first | omega | rfl | exact Nat.le_refl _ | exact Nat.le_of_ble_eq_true rfl | exact bytesF_one _) | (simp_all; done) | (simp_all; omega))) ?_
      | refine r_obj rfl rfl (by (first | (simp only [List.length_append, List.length_drop, List.length_take, lz, Array.length_toList, List.size_toArray, List.length_cons, List.length_nil]; omega) | omega | exact Nat.le_of_ble_eq_true rfl | (simp only [wrap_u8, IntKind.wrap_i64, IntKind.wrap_i32, wrap_u32', wrap_u64', InI]; (repeat' refine And.intro ?_ ?_) <;> omega) | ((repeat' refine And.intro ?_ ?_) <;> first | omega | rfl | exact Nat.le_refl _ | exact Nat.le_of_ble_eq_true rfl | exact bytesF_one _) | (simp_all; done) | (simp_all; omega))) ?_ | refine r_sto rfl (by (first | (simp only [List.length_append, List.length_drop, List.length_take, lz, Array.length_toList, List.size_toArray, List.length_cons, List.length_nil]; omega) | omega | exact Nat.le_of_ble_eq_true rfl | (simp only [wrap_u8, IntKind.wrap_i64, IntKind.wrap_i32, wrap_u32', wrap_u64', InI]; (repeat' refine And.intro ?_ ?_) <;> omega) | ((repeat' refine And.intro ?_ ?_) <;> first | omega | rfl | exact Nat.le_refl _ | exact Nat.le_of_ble_eq_true rfl | exact bytesF_one _) | (simp_all; done) | (simp_all; omega))) ?_ | refine r_gobj rfl rfl rfl rfl (by (first | (simp only [List.length_append, List.length_drop, List.length_take, lz, Array.length_toList, List.size_toArray, List.length_cons, List.length_nil]; omega) | omega | exact Nat.le_of_ble_eq_true rfl | (simp only [wrap_u8, IntKind.wrap_i64, IntKind.wrap_i32, wrap_u32', wrap_u64', InI]; (repeat' refine And.intro ?_ ?_) <;> omega) | ((repeat' refine And.intro ?_ ?_) <;> first | omega | rfl | exact Nat.le_refl _ | exact Nat.le_of_ble_eq_true rfl | exact bytesF_one _) | (simp_all; done) | (simp_all; omega))) ?_
      | refine e_hit rfl ?_ | refine e_miss rfl ?_
      | refine ⟨by kernel_rfl, ?_⟩ | refine x_end rfl ?_ | refine r_call (f := 42) rfl rfl Tryd.call42 rfl c1 ?_ | refine r_call (f := 43) rfl rfl Tryd.call43 rfl (c2 (by omega)) ?_ | refine r_call (f := 43) rfl rfl Tryd.call43 rfl (c3 (by omega)) ?_ | refine r_call (f := 44) rfl rfl Tryd.call44 rfl c4 ?_ | ((with_reducible refine c_grd ?_); (fail_if_success (refine c_lit true rfl rfl rfl ?_)); (fail_if_success (refine c_lit false rfl rfl rfl ?_)); refine c_split rfl rfl (fun _ => ?_) (fun _ => ?_)))
    · rw [u1 (by omega) (by omega)]
      exact congrArg D.s (by simp)
    · rw [u4 (by omega) (by omega) (by omega), if_neg (show ¬ 1 < s.length by omega), List.take_of_length_le (show s.length ≤ 1 by omega)]
      exact congrArg D.s (by simp)
    · rw [u4 (by omega) (by omega) (by omega), if_pos (show 1 < s.length by omega)]
      exact congrArg D.s (by simp)
    · rw [u2 (by omega) (by omega) (by omega)]
      exact congrArg D.s (by simp)
    · rw [u3 (by omega) (by omega) (by omega)]
      exact congrArg D.s (by simp)
    · rw [u4 (by omega) (by omega) (by omega), if_neg (show ¬ 1 < s.length by omega), List.take_of_length_le (show s.length ≤ 1 by omega)]
      exact congrArg D.s (by simp)
    · rw [u4 (by omega) (by omega) (by omega), if_pos (show 1 < s.length by omega)]
      exact congrArg D.s (by simp)
  | true =>
    repeat' (first
      | with_reducible refine t_seq ?_ | with_reducible refine t_region ?_ | with_reducible refine c_nil ?_ | with_reducible refine n_then ?_
      | with_reducible refine t_ret ?_ | with_reducible refine t_skip ?_ | with_reducible refine t_exit ?_ | with_reducible refine t_block ?_
      | with_reducible refine n_block ?_ | with_reducible refine e_then ?_ | with_reducible refine x_then ?_ | with_reducible refine x_block ?_ | with_reducible refine t_draw ?_
      | refine r_val rfl rfl True.intro ?_ | refine r_gskip rfl rfl rfl ?_ | refine r_gskip2 rfl rfl rfl ?_ | refine r_gval rfl rfl rfl rfl True.intro ?_
      | refine t_true rfl ?_ | refine t_false rfl ?_
      | ((first | refine t_cond_d rfl (fun _ => ?_) (fun _ => ?_) | refine t_cond_i rfl (fun _ => ?_) (fun _ => ?_) | refine t_cond_j rfl (fun _ => ?_) (fun _ => ?_) | refine t_cond_s rfl (fun _ => ?_) (fun _ => ?_) | refine t_cond_n rfl (fun _ => ?_) (fun _ => ?_) | refine t_cond rfl (fun _ => ?_) (fun _ => ?_) | refine c_split_d rfl rfl (fun _ => ?_) (fun _ => ?_) | refine c_split_i rfl rfl (fun _ => ?_) (fun _ => ?_) | refine c_split_j rfl rfl (fun _ => ?_) (fun _ => ?_) | refine c_split_s rfl rfl (fun _ => ?_) (fun _ => ?_) | refine c_split_n rfl rfl (fun _ => ?_) (fun _ => ?_)) <;> try (first | (rename_i hz; exact Bool.noConfusion (show true = false from hz)) | (rename_i hz; exact Bool.noConfusion (show false = true from hz)) | (exfalso; omega)))
      | refine r_val rfl rfl (by (first | (simp only [List.length_append, List.length_drop, List.length_take, lz, Array.length_toList, List.size_toArray, List.length_cons, List.length_nil]; omega) | omega | exact Nat.le_of_ble_eq_true rfl | (simp only [wrap_u8, IntKind.wrap_i64, IntKind.wrap_i32, wrap_u32', wrap_u64', InI]; (repeat' refine And.intro ?_ ?_) <;> omega) | ((repeat' refine And.intro ?_ ?_) <;> first | omega | rfl | exact Nat.le_refl _ | exact Nat.le_of_ble_eq_true rfl | exact bytesF_one _) | (simp_all; done) | (simp_all; omega))) ?_ | refine r_gval rfl rfl rfl rfl (by (first | (simp only [List.length_append, List.length_drop, List.length_take, lz, Array.length_toList, List.size_toArray, List.length_cons, List.length_nil]; omega) | omega | exact Nat.le_of_ble_eq_true rfl | (simp only [wrap_u8, IntKind.wrap_i64, IntKind.wrap_i32, wrap_u32', wrap_u64', InI]; (repeat' refine And.intro ?_ ?_) <;> omega) | ((repeat' refine And.intro ?_ ?_) <;> first | omega | rfl | exact Nat.le_refl _ | exact Nat.le_of_ble_eq_true rfl | exact bytesF_one _) | (simp_all; done) | (simp_all; omega))) ?_
      | refine r_obj rfl rfl (by (first | (simp only [List.length_append, List.length_drop, List.length_take, lz, Array.length_toList, List.size_toArray, List.length_cons, List.length_nil]; omega) | omega | exact Nat.le_of_ble_eq_true rfl | (simp only [wrap_u8, IntKind.wrap_i64, IntKind.wrap_i32, wrap_u32', wrap_u64', InI]; (repeat' refine And.intro ?_ ?_) <;> omega) | ((repeat' refine And.intro ?_ ?_) <;> first | omega | rfl | exact Nat.le_refl _ | exact Nat.le_of_ble_eq_true rfl | exact bytesF_one _) | (simp_all; done) | (simp_all; omega))) ?_ | refine r_sto rfl (by (first | (simp only [List.length_append, List.length_drop, List.length_take, lz, Array.length_toList, List.size_toArray, List.length_cons, List.length_nil]; omega) | omega | exact Nat.le_of_ble_eq_true rfl | (simp only [wrap_u8, IntKind.wrap_i64, IntKind.wrap_i32, wrap_u32', wrap_u64', InI]; (repeat' refine And.intro ?_ ?_) <;> omega) | ((repeat' refine And.intro ?_ ?_) <;> first | omega | rfl | exact Nat.le_refl _ | exact Nat.le_of_ble_eq_true rfl | exact bytesF_one _) | (simp_all; done) | (simp_all; omega))) ?_ | refine r_gobj rfl rfl rfl rfl (by (first | (simp only [List.length_append, List.length_drop, List.length_take, lz, Array.length_toList, List.size_toArray, List.length_cons, List.length_nil]; omega) | omega | exact Nat.le_of_ble_eq_true rfl | (simp only [wrap_u8, IntKind.wrap_i64, IntKind.wrap_i32, wrap_u32', wrap_u64', InI]; (repeat' refine And.intro ?_ ?_) <;> omega) | ((repeat' refine And.intro ?_ ?_) <;> first | omega | rfl | exact Nat.le_refl _ | exact Nat.le_of_ble_eq_true rfl | exact bytesF_one _) | (simp_all; done) | (simp_all; omega))) ?_
      | refine e_hit rfl ?_ | refine e_miss rfl ?_
      | refine ⟨by kernel_rfl, ?_⟩ | refine x_end rfl ?_ | refine r_call (f := 42) rfl rfl Tryd.call42 rfl c1 ?_ | refine r_call (f := 43) rfl rfl Tryd.call43 rfl (c2 (by omega)) ?_ | refine r_call (f := 43) rfl rfl Tryd.call43 rfl (c3 (by omega)) ?_ | refine r_call (f := 44) rfl rfl Tryd.call44 rfl c4 ?_ | ((with_reducible refine c_grd ?_); (fail_if_success (refine c_lit true rfl rfl rfl ?_)); (fail_if_success (refine c_lit false rfl rfl rfl ?_)); refine c_split rfl rfl (fun _ => ?_) (fun _ => ?_)))
    · rw [u1 (by omega) (by omega)]
      exact congrArg D.s (by simp)
    · rw [u4 (by omega) (by omega) (by omega), if_neg (show ¬ 1 < s.length by omega), List.take_of_length_le (show s.length ≤ 1 by omega)]
      exact congrArg D.s (by simp)
    · rw [u4 (by omega) (by omega) (by omega), if_pos (show 1 < s.length by omega)]
      exact congrArg D.s (by simp)
    · rw [u2 (by omega) (by omega) (by omega)]
      exact congrArg D.s (by simp)
    · rw [u3 (by omega) (by omega) (by omega)]
      exact congrArg D.s (by simp)
    · rw [u4 (by omega) (by omega) (by omega), if_neg (show ¬ 1 < s.length by omega), List.take_of_length_le (show s.length ≤ 1 by omega)]
      exact congrArg D.s (by simp)
    · rw [u4 (by omega) (by omega) (by omega), if_pos (show 1 < s.length by omega)]
      exact congrArg D.s (by simp)

end Go.Proofs.YteidmimpkipcfaaDoor.Flow

/- DEC: both texts, of any decimal. -/
namespace Go.Proofs.YteidmimpkipcfaaDoor.Flow
open Go

theorem text_zero : Ctr Tryd.prog 40 [dcD false [] 0] (.s [48]) := by
  have c1 := right_ctr false [] 0 (by decide)
  have hr : rightB false [] 0 = true := by decide
  rw [hr] at c1
  refine r_fun Tryd.func40 rfl Tryd.ntmps40 Tryd.results40 rfl rfl fun X hL hX => ?_
  repeat' (first
    | with_reducible refine t_seq ?_ | with_reducible refine t_region ?_ | with_reducible refine c_nil ?_ | with_reducible refine n_then ?_
    | with_reducible refine t_ret ?_ | with_reducible refine t_skip ?_ | with_reducible refine t_exit ?_ | with_reducible refine t_block ?_
    | with_reducible refine n_block ?_ | with_reducible refine e_then ?_ | with_reducible refine x_then ?_ | with_reducible refine x_block ?_ | with_reducible refine t_draw ?_
    | refine r_val rfl rfl True.intro ?_ | refine r_gskip rfl rfl rfl ?_ | refine r_gskip2 rfl rfl rfl ?_ | refine r_gval rfl rfl rfl rfl True.intro ?_
    | refine t_true rfl ?_ | refine t_false rfl ?_
    | ((first | refine t_cond_d rfl (fun _ => ?_) (fun _ => ?_) | refine t_cond_i rfl (fun _ => ?_) (fun _ => ?_) | refine t_cond_j rfl (fun _ => ?_) (fun _ => ?_) | refine t_cond_s rfl (fun _ => ?_) (fun _ => ?_) | refine t_cond_n rfl (fun _ => ?_) (fun _ => ?_) | refine t_cond rfl (fun _ => ?_) (fun _ => ?_) | refine c_split_d rfl rfl (fun _ => ?_) (fun _ => ?_) | refine c_split_i rfl rfl (fun _ => ?_) (fun _ => ?_) | refine c_split_j rfl rfl (fun _ => ?_) (fun _ => ?_) | refine c_split_s rfl rfl (fun _ => ?_) (fun _ => ?_) | refine c_split_n rfl rfl (fun _ => ?_) (fun _ => ?_)) <;> try (first | (rename_i hz; exact Bool.noConfusion (show true = false from hz)) | (rename_i hz; exact Bool.noConfusion (show false = true from hz)) | (exfalso; omega)))
    | refine r_val rfl rfl (by (first | omega | exact Nat.le_of_ble_eq_true rfl | (simp only [wrap_u8, IntKind.wrap_i64, IntKind.wrap_i32, wrap_u32', wrap_u64', InI]; (repeat' refine And.intro ?_ ?_) <;> omega) | ((repeat' refine And.intro ?_ ?_) <;> first | omega | rfl | exact Nat.le_refl _ | exact Nat.le_of_ble_eq_true rfl | exact bytesF_one _) | (simp_all; done) | (simp_all; omega))) ?_ | refine r_gval rfl rfl rfl rfl (by (first | omega | exact Nat.le_of_ble_eq_true rfl | (simp only [wrap_u8, IntKind.wrap_i64, IntKind.wrap_i32, wrap_u32', wrap_u64', InI]; (repeat' refine And.intro ?_ ?_) <;> omega) | ((repeat' refine And.intro ?_ ?_) <;> first | omega | rfl | exact Nat.le_refl _ | exact Nat.le_of_ble_eq_true rfl | exact bytesF_one _) | (simp_all; done) | (simp_all; omega))) ?_
    | refine r_obj rfl rfl (by (first | omega | exact Nat.le_of_ble_eq_true rfl | (simp only [wrap_u8, IntKind.wrap_i64, IntKind.wrap_i32, wrap_u32', wrap_u64', InI]; (repeat' refine And.intro ?_ ?_) <;> omega) | ((repeat' refine And.intro ?_ ?_) <;> first | omega | rfl | exact Nat.le_refl _ | exact Nat.le_of_ble_eq_true rfl | exact bytesF_one _) | (simp_all; done) | (simp_all; omega))) ?_ | refine r_sto rfl (by (first | omega | exact Nat.le_of_ble_eq_true rfl | (simp only [wrap_u8, IntKind.wrap_i64, IntKind.wrap_i32, wrap_u32', wrap_u64', InI]; (repeat' refine And.intro ?_ ?_) <;> omega) | ((repeat' refine And.intro ?_ ?_) <;> first | omega | rfl | exact Nat.le_refl _ | exact Nat.le_of_ble_eq_true rfl | exact bytesF_one _) | (simp_all; done) | (simp_all; omega))) ?_ | refine r_gobj rfl rfl rfl rfl (by (first | omega | exact Nat.le_of_ble_eq_true rfl | (simp only [wrap_u8, IntKind.wrap_i64, IntKind.wrap_i32, wrap_u32', wrap_u64', InI]; (repeat' refine And.intro ?_ ?_) <;> omega) | ((repeat' refine And.intro ?_ ?_) <;> first | omega | rfl | exact Nat.le_refl _ | exact Nat.le_of_ble_eq_true rfl | exact bytesF_one _) | (simp_all; done) | (simp_all; omega))) ?_
    | refine e_hit rfl ?_ | refine e_miss rfl ?_
    | refine ⟨by kernel_rfl, ?_⟩ | refine x_end rfl ?_ | refine r_call (f := 46) rfl rfl Tryd.call46 rfl c1 ?_ | ((with_reducible refine c_grd ?_); (fail_if_success (refine c_lit true rfl rfl rfl ?_)); (fail_if_success (refine c_lit false rfl rfl rfl ?_)); refine c_split rfl rfl (fun _ => ?_) (fun _ => ?_)))
  all_goals rfl

theorem rtext_zero : Ctr Tryd.prog 10 [dcD false [] 0] (.s [48]) := by
  have c1 := rright_ctr false [] 0 (by decide)
  have hr : rightB false [] 0 = true := by decide
  rw [hr] at c1
  refine r_fun Tryd.func10 rfl Tryd.ntmps10 Tryd.results10 rfl rfl fun X hL hX => ?_
  repeat' (first
    | with_reducible refine t_seq ?_ | with_reducible refine t_region ?_ | with_reducible refine c_nil ?_ | with_reducible refine n_then ?_
    | with_reducible refine t_ret ?_ | with_reducible refine t_skip ?_ | with_reducible refine t_exit ?_ | with_reducible refine t_block ?_
    | with_reducible refine n_block ?_ | with_reducible refine e_then ?_ | with_reducible refine x_then ?_ | with_reducible refine x_block ?_ | with_reducible refine t_draw ?_
    | refine r_val rfl rfl True.intro ?_ | refine r_gskip rfl rfl rfl ?_ | refine r_gskip2 rfl rfl rfl ?_ | refine r_gval rfl rfl rfl rfl True.intro ?_
    | refine t_true rfl ?_ | refine t_false rfl ?_
    | ((first | refine t_cond_d rfl (fun _ => ?_) (fun _ => ?_) | refine t_cond_i rfl (fun _ => ?_) (fun _ => ?_) | refine t_cond_j rfl (fun _ => ?_) (fun _ => ?_) | refine t_cond_s rfl (fun _ => ?_) (fun _ => ?_) | refine t_cond_n rfl (fun _ => ?_) (fun _ => ?_) | refine t_cond rfl (fun _ => ?_) (fun _ => ?_) | refine c_split_d rfl rfl (fun _ => ?_) (fun _ => ?_) | refine c_split_i rfl rfl (fun _ => ?_) (fun _ => ?_) | refine c_split_j rfl rfl (fun _ => ?_) (fun _ => ?_) | refine c_split_s rfl rfl (fun _ => ?_) (fun _ => ?_) | refine c_split_n rfl rfl (fun _ => ?_) (fun _ => ?_)) <;> try (first | (rename_i hz; exact Bool.noConfusion (show true = false from hz)) | (rename_i hz; exact Bool.noConfusion (show false = true from hz)) | (exfalso; omega)))
    | refine r_val rfl rfl (by (first | omega | exact Nat.le_of_ble_eq_true rfl | (simp only [wrap_u8, IntKind.wrap_i64, IntKind.wrap_i32, wrap_u32', wrap_u64', InI]; (repeat' refine And.intro ?_ ?_) <;> omega) | ((repeat' refine And.intro ?_ ?_) <;> first | omega | rfl | exact Nat.le_refl _ | exact Nat.le_of_ble_eq_true rfl | exact bytesF_one _) | (simp_all; done) | (simp_all; omega))) ?_ | refine r_gval rfl rfl rfl rfl (by (first | omega | exact Nat.le_of_ble_eq_true rfl | (simp only [wrap_u8, IntKind.wrap_i64, IntKind.wrap_i32, wrap_u32', wrap_u64', InI]; (repeat' refine And.intro ?_ ?_) <;> omega) | ((repeat' refine And.intro ?_ ?_) <;> first | omega | rfl | exact Nat.le_refl _ | exact Nat.le_of_ble_eq_true rfl | exact bytesF_one _) | (simp_all; done) | (simp_all; omega))) ?_
    | refine r_obj rfl rfl (by (first | omega | exact Nat.le_of_ble_eq_true rfl | (simp only [wrap_u8, IntKind.wrap_i64, IntKind.wrap_i32, wrap_u32', wrap_u64', InI]; (repeat' refine And.intro ?_ ?_) <;> omega) | ((repeat' refine And.intro ?_ ?_) <;> first | omega | rfl | exact Nat.le_refl _ | exact Nat.le_of_ble_eq_true rfl | exact bytesF_one _) | (simp_all; done) | (simp_all; omega))) ?_ | refine r_sto rfl (by (first | omega | exact Nat.le_of_ble_eq_true rfl | (simp only [wrap_u8, IntKind.wrap_i64, IntKind.wrap_i32, wrap_u32', wrap_u64', InI]; (repeat' refine And.intro ?_ ?_) <;> omega) | ((repeat' refine And.intro ?_ ?_) <;> first | omega | rfl | exact Nat.le_refl _ | exact Nat.le_of_ble_eq_true rfl | exact bytesF_one _) | (simp_all; done) | (simp_all; omega))) ?_ | refine r_gobj rfl rfl rfl rfl (by (first | omega | exact Nat.le_of_ble_eq_true rfl | (simp only [wrap_u8, IntKind.wrap_i64, IntKind.wrap_i32, wrap_u32', wrap_u64', InI]; (repeat' refine And.intro ?_ ?_) <;> omega) | ((repeat' refine And.intro ?_ ?_) <;> first | omega | rfl | exact Nat.le_refl _ | exact Nat.le_of_ble_eq_true rfl | exact bytesF_one _) | (simp_all; done) | (simp_all; omega))) ?_
    | refine e_hit rfl ?_ | refine e_miss rfl ?_
    | refine ⟨by kernel_rfl, ?_⟩ | refine x_end rfl ?_ | refine r_call (f := 42) rfl rfl Tryd.call42 rfl c1 ?_ | ((with_reducible refine c_grd ?_); (fail_if_success (refine c_lit true rfl rfl rfl ?_)); (fail_if_success (refine c_lit false rfl rfl rfl ?_)); refine c_split rfl rfl (fun _ => ?_) (fun _ => ?_)))
  all_goals rfl

theorem text_ctr (neg : Bool) (s : List UInt8) (e : Int) (hs : s.length ≤ 1048576) : Ctr Tryd.prog 40 [dcD neg s e] (.s (textF neg s e)) := by
  by_cases h : RightP neg s e
  · by_cases h0 : s.length = 0
    · obtain ⟨rfl, rfl⟩ := (right_nil h0).1 h
      obtain rfl := len_nil h0
      exact text_zero
    · have := text_ok neg s e h h0
      unfold textF
      rw [if_neg (fun h2 => h2 h), if_neg h0]
      exact this
  · have := text_bad neg s e hs h
    unfold textF
    rw [if_pos h]
    exact this

theorem rtext_ctr (neg : Bool) (s : List UInt8) (e : Int) (hs : s.length ≤ 1048576) : Ctr Tryd.prog 10 [dcD neg s e] (.s (textF neg s e)) := by
  by_cases h : RightP neg s e
  · by_cases h0 : s.length = 0
    · obtain ⟨rfl, rfl⟩ := (right_nil h0).1 h
      obtain rfl := len_nil h0
      exact rtext_zero
    · have := rtext_ok neg s e h h0
      unfold textF
      rw [if_neg (fun h2 => h2 h), if_neg h0]
      exact this
  · have := rtext_bad neg s e hs h
    unfold textF
    rw [if_pos h]
    exact this

end Go.Proofs.YteidmimpkipcfaaDoor.Flow
