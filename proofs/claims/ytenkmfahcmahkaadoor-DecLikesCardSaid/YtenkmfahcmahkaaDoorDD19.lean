/- DEC: DecOfs' and DecLikes' functions. -/
import Derived.Test.YtenkmfahcmahkaaDoorDD13
import Derived.Test.YtenkmfahcmahkaaDoorDD16
import Derived.Test.YtenkmfahcmahkaaDoorDD17
namespace Go.Proofs.YtenkmfahcmahkaaDoor.Flow
open Go

theorem ofF_len (n e : Int) (h0 : -9223372036854775808 ≤ n) (h1 : n ≤ 9223372036854775807) : (ofF n e).2.1.length ≤ 1000 := by
  have h := dec_len n.natAbs 19 (by omega) (by omega)
  have h2 := tR_len (Lib.decDigits n.natAbs)
  have h3 := tL_len (tR (Lib.decDigits n.natAbs))
  unfold ofF normF
  repeat' split
  all_goals first | decide | (dsimp only; omega)

theorem ofF_right (n e : Int) (h0 : -9223372036854775808 ≤ n) (h1 : n ≤ 9223372036854775807) (he : -900 ≤ e) (he1 : e ≤ 900) : RightP (ofF n e).1 (ofF n e).2.1 (ofF n e).2.2 := by
  by_cases h : n = 0
  · subst h
    rw [ofF_zero]
    decide
  · obtain ⟨e1, e2⟩ := ofF_num h (e := e) (by omega) he he1
    rw [e1]
    exact e2

theorem law_ofs_ctr (n e : Int) (h0 : -9223372036854775808 ≤ n ∧ n < 9223372036854775808) (he : -9223372036854775808 ≤ e ∧ e < 9223372036854775808) : Ctr Tryd.prog 9 [.i .i64 n, .i .i64 e] (.b true) := by
  have hl := dlive_ctr
  have c1 := of_ctr n e (by omega) (by omega)
  have c2 := of_ctr n 0 (by omega) (by omega)
  have c3 := int_ctr (ofF n 0).1 (ofF n 0).2.1 (ofF n 0).2.2 (by have := ofF_len n 0 (by omega) (by omega); omega)
  have c4 := rof_ctr n e (by omega) (by omega)
  have hw := fun h h2 => intF_of n h h2
  generalize intF (ofF n 0).1 (ofF n 0).2.1 (ofF n 0).2.2 = N at *
  generalize ofF n 0 = Z at *
  generalize ofF n e = D at *
  obtain ⟨na, sa, ea⟩ := Z
  obtain ⟨nb, sb, eb⟩ := D
  obtain ⟨k, ok⟩ := N
  have hw1 : -4611686018427387904 ≤ n → n ≤ 4611686018427387904 → ok = true ∧ k = n := fun h h2 => by
    have := hw h h2
    exact ⟨congrArg Prod.snd this, congrArg Prod.fst this⟩
  clear hw
  refine r_fun Tryd.func9 rfl Tryd.ntmps9 Tryd.results9 rfl rfl fun X hL hX => ?_
  by_cases hb : -4611686018427387904 ≤ n ∧ n ≤ 4611686018427387904
  · obtain ⟨rfl, rfl⟩ := hw1 hb.1 hb.2
    clear hw1
    repeat' (first
      | with_reducible refine t_seq ?_ | with_reducible refine t_region ?_ | with_reducible refine c_nil ?_ | with_reducible refine n_then ?_
      | with_reducible refine t_ret ?_ | with_reducible refine t_skip ?_ | with_reducible refine t_exit ?_ | with_reducible refine t_block ?_
      | with_reducible refine n_block ?_ | with_reducible refine e_then ?_ | with_reducible refine x_then ?_ | with_reducible refine x_block ?_ | with_reducible refine t_draw ?_
      | refine r_val rfl rfl True.intro ?_ | refine r_gskip rfl rfl rfl ?_ | refine r_gskip2 rfl rfl rfl ?_ | refine r_gval rfl rfl rfl rfl True.intro ?_
      | refine t_true rfl ?_ | refine t_false rfl ?_
      | ((first | refine t_cond_d rfl (fun _ => ?_) (fun _ => ?_) | refine t_cond_i rfl (fun _ => ?_) (fun _ => ?_) | refine t_cond_j rfl (fun _ => ?_) (fun _ => ?_) | refine t_cond_s rfl (fun _ => ?_) (fun _ => ?_) | refine t_cond_n rfl (fun _ => ?_) (fun _ => ?_) | refine t_cond rfl (fun _ => ?_) (fun _ => ?_) | refine c_split_d rfl rfl (fun _ => ?_) (fun _ => ?_) | refine c_split_i rfl rfl (fun _ => ?_) (fun _ => ?_) | refine c_split_j rfl rfl (fun _ => ?_) (fun _ => ?_) | refine c_split_s rfl rfl (fun _ => ?_) (fun _ => ?_) | refine c_split_n rfl rfl (fun _ => ?_) (fun _ => ?_)) <;> try (first | (rename_i hz; exact Bool.noConfusion (show true = false from hz)) | (rename_i hz; exact Bool.noConfusion (show false = true from hz)) | (exfalso; omega)))
      | refine r_val rfl rfl (by (first | omega | exact Nat.le_of_ble_eq_true rfl | (simp only [wrap_u8, IntKind.wrap_i64, IntKind.wrap_i32, wrap_u32', wrap_u64', InI]; (repeat' refine And.intro ?_ ?_) <;> omega) | ((repeat' refine And.intro ?_ ?_) <;> first | omega | rfl | exact Nat.le_refl _ | exact Nat.le_of_ble_eq_true rfl | exact bytesF_one _) | (simp_all; done) | (simp_all; omega))) ?_ | refine r_gval rfl rfl rfl rfl (by (first | omega | exact Nat.le_of_ble_eq_true rfl | (simp only [wrap_u8, IntKind.wrap_i64, IntKind.wrap_i32, wrap_u32', wrap_u64', InI]; (repeat' refine And.intro ?_ ?_) <;> omega) | ((repeat' refine And.intro ?_ ?_) <;> first | omega | rfl | exact Nat.le_refl _ | exact Nat.le_of_ble_eq_true rfl | exact bytesF_one _) | (simp_all; done) | (simp_all; omega))) ?_
      | refine r_obj rfl rfl (by (first | omega | exact Nat.le_of_ble_eq_true rfl | (simp only [wrap_u8, IntKind.wrap_i64, IntKind.wrap_i32, wrap_u32', wrap_u64', InI]; (repeat' refine And.intro ?_ ?_) <;> omega) | ((repeat' refine And.intro ?_ ?_) <;> first | omega | rfl | exact Nat.le_refl _ | exact Nat.le_of_ble_eq_true rfl | exact bytesF_one _) | (simp_all; done) | (simp_all; omega))) ?_ | refine r_sto rfl (by (first | omega | exact Nat.le_of_ble_eq_true rfl | (simp only [wrap_u8, IntKind.wrap_i64, IntKind.wrap_i32, wrap_u32', wrap_u64', InI]; (repeat' refine And.intro ?_ ?_) <;> omega) | ((repeat' refine And.intro ?_ ?_) <;> first | omega | rfl | exact Nat.le_refl _ | exact Nat.le_of_ble_eq_true rfl | exact bytesF_one _) | (simp_all; done) | (simp_all; omega))) ?_ | refine r_gobj rfl rfl rfl rfl (by (first | omega | exact Nat.le_of_ble_eq_true rfl | (simp only [wrap_u8, IntKind.wrap_i64, IntKind.wrap_i32, wrap_u32', wrap_u64', InI]; (repeat' refine And.intro ?_ ?_) <;> omega) | ((repeat' refine And.intro ?_ ?_) <;> first | omega | rfl | exact Nat.le_refl _ | exact Nat.le_of_ble_eq_true rfl | exact bytesF_one _) | (simp_all; done) | (simp_all; omega))) ?_
      | refine e_hit rfl ?_ | refine e_miss rfl ?_
      | refine ⟨by kernel_rfl, ?_⟩ | refine x_end rfl ?_ | refine r_call (f := 37) rfl rfl Tryd.call37 rfl c1 ?_ | refine r_call (f := 37) rfl rfl Tryd.call37 rfl c2 ?_ | refine r_call (f := 31) rfl rfl Tryd.call31 rfl c3 ?_ | refine r_call (f := 38) rfl rfl Tryd.call38 rfl c4 ?_ | refine r_gcall (f := 27) rfl rfl rfl rfl Tryd.call27 rfl hl ?_ | refine r_call (f := 27) rfl rfl Tryd.call27 rfl hl ?_ | ((with_reducible refine c_grd ?_); (fail_if_success (refine c_lit true rfl rfl rfl ?_)); (fail_if_success (refine c_lit false rfl rfl rfl ?_)); refine c_split rfl rfl (fun _ => ?_) (fun _ => ?_)))
    all_goals first | rfl | (exfalso; simp_all; done)
  · clear hw1
    repeat' (first
      | with_reducible refine t_seq ?_ | with_reducible refine t_region ?_ | with_reducible refine c_nil ?_ | with_reducible refine n_then ?_
      | with_reducible refine t_ret ?_ | with_reducible refine t_skip ?_ | with_reducible refine t_exit ?_ | with_reducible refine t_block ?_
      | with_reducible refine n_block ?_ | with_reducible refine e_then ?_ | with_reducible refine x_then ?_ | with_reducible refine x_block ?_ | with_reducible refine t_draw ?_
      | refine r_val rfl rfl True.intro ?_ | refine r_gskip rfl rfl rfl ?_ | refine r_gskip2 rfl rfl rfl ?_ | refine r_gval rfl rfl rfl rfl True.intro ?_
      | refine t_true rfl ?_ | refine t_false rfl ?_
      | ((first | refine t_cond_d rfl (fun _ => ?_) (fun _ => ?_) | refine t_cond_i rfl (fun _ => ?_) (fun _ => ?_) | refine t_cond_j rfl (fun _ => ?_) (fun _ => ?_) | refine t_cond_s rfl (fun _ => ?_) (fun _ => ?_) | refine t_cond_n rfl (fun _ => ?_) (fun _ => ?_) | refine t_cond rfl (fun _ => ?_) (fun _ => ?_) | refine c_split_d rfl rfl (fun _ => ?_) (fun _ => ?_) | refine c_split_i rfl rfl (fun _ => ?_) (fun _ => ?_) | refine c_split_j rfl rfl (fun _ => ?_) (fun _ => ?_) | refine c_split_s rfl rfl (fun _ => ?_) (fun _ => ?_) | refine c_split_n rfl rfl (fun _ => ?_) (fun _ => ?_)) <;> try (first | (rename_i hz; exact Bool.noConfusion (show true = false from hz)) | (rename_i hz; exact Bool.noConfusion (show false = true from hz)) | (exfalso; omega)))
      | refine r_val rfl rfl (by (first | omega | exact Nat.le_of_ble_eq_true rfl | (simp only [wrap_u8, IntKind.wrap_i64, IntKind.wrap_i32, wrap_u32', wrap_u64', InI]; (repeat' refine And.intro ?_ ?_) <;> omega) | ((repeat' refine And.intro ?_ ?_) <;> first | omega | rfl | exact Nat.le_refl _ | exact Nat.le_of_ble_eq_true rfl | exact bytesF_one _) | (simp_all; done) | (simp_all; omega))) ?_ | refine r_gval rfl rfl rfl rfl (by (first | omega | exact Nat.le_of_ble_eq_true rfl | (simp only [wrap_u8, IntKind.wrap_i64, IntKind.wrap_i32, wrap_u32', wrap_u64', InI]; (repeat' refine And.intro ?_ ?_) <;> omega) | ((repeat' refine And.intro ?_ ?_) <;> first | omega | rfl | exact Nat.le_refl _ | exact Nat.le_of_ble_eq_true rfl | exact bytesF_one _) | (simp_all; done) | (simp_all; omega))) ?_
      | refine r_obj rfl rfl (by (first | omega | exact Nat.le_of_ble_eq_true rfl | (simp only [wrap_u8, IntKind.wrap_i64, IntKind.wrap_i32, wrap_u32', wrap_u64', InI]; (repeat' refine And.intro ?_ ?_) <;> omega) | ((repeat' refine And.intro ?_ ?_) <;> first | omega | rfl | exact Nat.le_refl _ | exact Nat.le_of_ble_eq_true rfl | exact bytesF_one _) | (simp_all; done) | (simp_all; omega))) ?_ | refine r_sto rfl (by (first | omega | exact Nat.le_of_ble_eq_true rfl | (simp only [wrap_u8, IntKind.wrap_i64, IntKind.wrap_i32, wrap_u32', wrap_u64', InI]; (repeat' refine And.intro ?_ ?_) <;> omega) | ((repeat' refine And.intro ?_ ?_) <;> first | omega | rfl | exact Nat.le_refl _ | exact Nat.le_of_ble_eq_true rfl | exact bytesF_one _) | (simp_all; done) | (simp_all; omega))) ?_ | refine r_gobj rfl rfl rfl rfl (by (first | omega | exact Nat.le_of_ble_eq_true rfl | (simp only [wrap_u8, IntKind.wrap_i64, IntKind.wrap_i32, wrap_u32', wrap_u64', InI]; (repeat' refine And.intro ?_ ?_) <;> omega) | ((repeat' refine And.intro ?_ ?_) <;> first | omega | rfl | exact Nat.le_refl _ | exact Nat.le_of_ble_eq_true rfl | exact bytesF_one _) | (simp_all; done) | (simp_all; omega))) ?_
      | refine e_hit rfl ?_ | refine e_miss rfl ?_
      | refine ⟨by kernel_rfl, ?_⟩ | refine x_end rfl ?_ | refine r_call (f := 37) rfl rfl Tryd.call37 rfl c1 ?_ | refine r_call (f := 37) rfl rfl Tryd.call37 rfl c2 ?_ | refine r_call (f := 31) rfl rfl Tryd.call31 rfl c3 ?_ | refine r_call (f := 38) rfl rfl Tryd.call38 rfl c4 ?_ | refine r_gcall (f := 27) rfl rfl rfl rfl Tryd.call27 rfl hl ?_ | refine r_call (f := 27) rfl rfl Tryd.call27 rfl hl ?_ | ((with_reducible refine c_grd ?_); (fail_if_success (refine c_lit true rfl rfl rfl ?_)); (fail_if_success (refine c_lit false rfl rfl rfl ?_)); refine c_split rfl rfl (fun _ => ?_) (fun _ => ?_)))
    all_goals first | rfl | (exfalso; simp_all; done) | (exfalso; omega)

theorem law_likes_ctr (a b x : Int) (ha : -2147483648 ≤ a ∧ a < 2147483648) (hb : -2147483648 ≤ b ∧ b < 2147483648) (hx : -32768 ≤ x ∧ x < 32768) : Ctr Tryd.prog 11 [.i .i32 a, .i .i32 b, .i .i16 x] (.b true) := by
  have hl := dlive_ctr
  have wa : IntKind.i64.wrap a = a := by rw [IntKind.wrap_i64]; omega
  have wb : IntKind.i64.wrap b = b := by rw [IntKind.wrap_i64]; omega
  have wx : IntKind.i64.wrap x = x := by rw [IntKind.wrap_i64]; omega
  have hq : -899 ≤ (IntKind.i64.wrap x).tmod 900 ∧ (IntKind.i64.wrap x).tmod 900 ≤ 899 := by
    rw [wx]
    by_cases h : 0 ≤ x
    · rw [Int.tmod_eq_emod_of_nonneg h]
      omega
    · have e : x.tmod 900 = -((-x).tmod 900) := by
        have := Int.neg_tmod (-x) 900
        rw [Int.neg_neg] at this
        exact this
      rw [e, Int.tmod_eq_emod_of_nonneg (show 0 ≤ -x by omega)]
      omega
  generalize hQ : (IntKind.i64.wrap x).tmod 900 = q at hq
  have c1 := of_ctr a q (by omega) (by omega)
  have c2 := of_ctr b q (by omega) (by omega)
  have c3 := of_ctr (a * 10) (q - 1) (by omega) (by omega)
  have c4 := porder_ctr (ofF a q).1 (ofF a q).2.1 (ofF a q).2.2 (ofF b q).1 (ofF b q).2.1 (ofF b q).2.2 (by have := ofF_len a q (by omega) (by omega); omega) (by have := ofF_len b q (by omega) (by omega); omega)
  have e4 : ordF (ofF a q).1 (ofF a q).2.1 (ofF a q).2.2 (ofF b q).1 (ofF b q).2.1 (ofF b q).2.2 = Lib.compareInt a b := by
    unfold ordF
    rw [if_neg (fun h => h.elim (fun h => h (ofF_right a q (by omega) (by omega) (by omega) (by omega))) (fun h => h (ofF_right b q (by omega) (by omega) (by omega) (by omega))))]
    exact order_num a b q (by omega) (by omega) (by omega) (by omega)
  rw [e4] at c4
  rw [ofF_ten a q (by omega) (by omega)] at c3
  clear e4
  generalize ofF a q = P at *
  generalize ofF b q = Q at *
  rw [← hQ, ← wa] at c1
  rw [← hQ, ← wb] at c2
  rw [← hQ, ← wa] at c3
  have hq2 : -899 ≤ (IntKind.i64.wrap x).tmod 900 ∧ (IntKind.i64.wrap x).tmod 900 ≤ 899 := by rw [hQ]; exact hq
  clear hQ hq
  obtain ⟨na, sa, ea⟩ := P
  obtain ⟨nb, sb, eb⟩ := Q
  have k1 : a < b → Lib.compareInt a b = -1 := cmpInt_lt
  have k2 : b < a → Lib.compareInt a b = 1 := cmpInt_gt
  have k3 : ¬ a < b → ¬ b < a → Lib.compareInt a b = 0 := fun h h2 => cmpInt_eq (by omega)
  generalize Lib.compareInt a b = C at *
  refine r_fun Tryd.func11 rfl Tryd.ntmps11 Tryd.results11 rfl rfl fun X hL hX => ?_
  repeat' (first
    | with_reducible refine t_seq ?_ | with_reducible refine t_region ?_ | with_reducible refine c_nil ?_ | with_reducible refine n_then ?_
    | with_reducible refine t_ret ?_ | with_reducible refine t_skip ?_ | with_reducible refine t_exit ?_ | with_reducible refine t_block ?_
    | with_reducible refine n_block ?_ | with_reducible refine e_then ?_ | with_reducible refine x_then ?_ | with_reducible refine x_block ?_ | with_reducible refine t_draw ?_
    | refine r_val rfl rfl True.intro ?_ | refine r_gskip rfl rfl rfl ?_ | refine r_gskip2 rfl rfl rfl ?_ | refine r_gval rfl rfl rfl rfl True.intro ?_
    | refine t_true rfl ?_ | refine t_false rfl ?_
    | ((first | refine t_cond_d rfl (fun _ => ?_) (fun _ => ?_) | refine t_cond_i rfl (fun _ => ?_) (fun _ => ?_) | refine t_cond_j rfl (fun _ => ?_) (fun _ => ?_) | refine t_cond_s rfl (fun _ => ?_) (fun _ => ?_) | refine t_cond_n rfl (fun _ => ?_) (fun _ => ?_) | refine t_cond rfl (fun _ => ?_) (fun _ => ?_) | refine c_split_d rfl rfl (fun _ => ?_) (fun _ => ?_) | refine c_split_i rfl rfl (fun _ => ?_) (fun _ => ?_) | refine c_split_j rfl rfl (fun _ => ?_) (fun _ => ?_) | refine c_split_s rfl rfl (fun _ => ?_) (fun _ => ?_) | refine c_split_n rfl rfl (fun _ => ?_) (fun _ => ?_)) <;> try (first | (rename_i hz; exact Bool.noConfusion (show true = false from hz)) | (rename_i hz; exact Bool.noConfusion (show false = true from hz)) | (exfalso; omega)))
    | refine r_val rfl rfl (by (first | omega | exact Nat.le_of_ble_eq_true rfl | (simp only [wrap_u8, IntKind.wrap_i64, IntKind.wrap_i32, wrap_u32', wrap_u64', InI]; (repeat' refine And.intro ?_ ?_) <;> omega) | ((repeat' refine And.intro ?_ ?_) <;> first | omega | rfl | exact Nat.le_refl _ | exact Nat.le_of_ble_eq_true rfl | exact bytesF_one _) | (simp_all; done) | (simp_all; omega))) ?_ | refine r_gval rfl rfl rfl rfl (by (first | omega | exact Nat.le_of_ble_eq_true rfl | (simp only [wrap_u8, IntKind.wrap_i64, IntKind.wrap_i32, wrap_u32', wrap_u64', InI]; (repeat' refine And.intro ?_ ?_) <;> omega) | ((repeat' refine And.intro ?_ ?_) <;> first | omega | rfl | exact Nat.le_refl _ | exact Nat.le_of_ble_eq_true rfl | exact bytesF_one _) | (simp_all; done) | (simp_all; omega))) ?_
    | refine r_obj rfl rfl (by (first | omega | exact Nat.le_of_ble_eq_true rfl | (simp only [wrap_u8, IntKind.wrap_i64, IntKind.wrap_i32, wrap_u32', wrap_u64', InI]; (repeat' refine And.intro ?_ ?_) <;> omega) | ((repeat' refine And.intro ?_ ?_) <;> first | omega | rfl | exact Nat.le_refl _ | exact Nat.le_of_ble_eq_true rfl | exact bytesF_one _) | (simp_all; done) | (simp_all; omega))) ?_ | refine r_sto rfl (by (first | omega | exact Nat.le_of_ble_eq_true rfl | (simp only [wrap_u8, IntKind.wrap_i64, IntKind.wrap_i32, wrap_u32', wrap_u64', InI]; (repeat' refine And.intro ?_ ?_) <;> omega) | ((repeat' refine And.intro ?_ ?_) <;> first | omega | rfl | exact Nat.le_refl _ | exact Nat.le_of_ble_eq_true rfl | exact bytesF_one _) | (simp_all; done) | (simp_all; omega))) ?_ | refine r_gobj rfl rfl rfl rfl (by (first | omega | exact Nat.le_of_ble_eq_true rfl | (simp only [wrap_u8, IntKind.wrap_i64, IntKind.wrap_i32, wrap_u32', wrap_u64', InI]; (repeat' refine And.intro ?_ ?_) <;> omega) | ((repeat' refine And.intro ?_ ?_) <;> first | omega | rfl | exact Nat.le_refl _ | exact Nat.le_of_ble_eq_true rfl | exact bytesF_one _) | (simp_all; done) | (simp_all; omega))) ?_
    | refine e_hit rfl ?_ | refine e_miss rfl ?_
    | refine ⟨by kernel_rfl, ?_⟩ | refine x_end rfl ?_ | refine r_trem rfl rfl rfl (by omega) ?_ | refine r_gtrem rfl rfl rfl rfl rfl (by omega) ?_ | refine r_call (f := 37) rfl rfl Tryd.call37 rfl c1 ?_ | refine r_call (f := 37) rfl rfl Tryd.call37 rfl c2 ?_ | refine r_call (f := 39) rfl rfl Tryd.call39 rfl c4 ?_ | refine r_gcall (f := 37) rfl rfl rfl rfl Tryd.call37 rfl c3 ?_ | refine r_call (f := 37) rfl rfl Tryd.call37 rfl c3 ?_ | refine r_gcall (f := 27) rfl rfl rfl rfl Tryd.call27 rfl hl ?_ | refine r_call (f := 27) rfl rfl Tryd.call27 rfl hl ?_ | ((with_reducible refine c_grd ?_); (fail_if_success (refine c_lit true rfl rfl rfl ?_)); (fail_if_success (refine c_lit false rfl rfl rfl ?_)); refine c_split rfl rfl (fun _ => ?_) (fun _ => ?_)))
  all_goals first | rfl | (exfalso; omega) | (exfalso; simp_all; done)

end Go.Proofs.YtenkmfahcmahkaaDoor.Flow
