/- The texts F12, F13, F14, one behind the other. -/
import Derived.Test.YteidmimpkipcfaaDoorK7
import Derived.Test.YteidmimpkipcfaaDoorK10
/- FLOAT: the reference: a decimal as one number by another, a fraction held against a number. -/
namespace Go.Proofs.YteidmimpkipcfaaDoor.Flow
open Go

set_option maxHeartbeats 1000000 in
theorem rratio_ctr (neg : Bool) (s : List UInt8) (e : Int) (h : RightP neg s e) : Ctr Tryd.prog 101 [dcD neg s e] (.tu [slW .u64 (ratN 65536 s e), slW .u64 (ratD 65536 e)]) := by
  obtain ⟨hs, he1, he2, hd⟩ := h.bounds
  refine r_fun Tryd.func101 rfl Tryd.ntmps101 Tryd.results101 rfl rfl fun X hL hX => ?_
  repeat' (first
    | with_reducible refine t_seq ?_ | with_reducible refine t_region ?_ | with_reducible refine c_nil ?_ | with_reducible refine n_then ?_
    | with_reducible refine t_ret ?_ | with_reducible refine t_skip ?_ | with_reducible refine t_exit ?_ | with_reducible refine t_block ?_
    | with_reducible refine n_block ?_ | with_reducible refine e_then ?_ | with_reducible refine x_then ?_ | with_reducible refine x_block ?_ | with_reducible refine t_draw ?_
    | refine r_val rfl rfl True.intro ?_ | refine r_gskip rfl rfl rfl ?_ | refine r_gskip2 rfl rfl rfl ?_ | refine r_gval rfl rfl rfl rfl True.intro ?_
    | refine t_true rfl ?_ | refine t_false rfl ?_
    | ((first | refine t_cond_d rfl (fun _ => ?_) (fun _ => ?_) | refine t_cond_i rfl (fun _ => ?_) (fun _ => ?_) | refine t_cond_j rfl (fun _ => ?_) (fun _ => ?_) | refine t_cond_s rfl (fun _ => ?_) (fun _ => ?_) | refine t_cond_n rfl (fun _ => ?_) (fun _ => ?_) | refine t_cond rfl (fun _ => ?_) (fun _ => ?_) | refine c_split_d rfl rfl (fun _ => ?_) (fun _ => ?_) | refine c_split_i rfl rfl (fun _ => ?_) (fun _ => ?_) | refine c_split_j rfl rfl (fun _ => ?_) (fun _ => ?_) | refine c_split_s rfl rfl (fun _ => ?_) (fun _ => ?_) | refine c_split_n rfl rfl (fun _ => ?_) (fun _ => ?_)) <;> try (first | contradiction | (exfalso; omega)))
    | refine r_val rfl rfl (by (first | omega | exact Nat.le_of_ble_eq_true rfl | (simp only [wrap_u8, IntKind.wrap_i64, IntKind.wrap_i32, wrap_u32', wrap_u64', InI]; (repeat' refine And.intro ?_ ?_) <;> omega) | ((repeat' refine And.intro ?_ ?_) <;> first | omega | rfl | exact Nat.le_refl _ | exact Nat.le_of_ble_eq_true rfl | exact bytesF_one _) | (simp_all; done) | (simp_all; omega))) ?_ | refine r_gval rfl rfl rfl rfl (by (first | omega | exact Nat.le_of_ble_eq_true rfl | (simp only [wrap_u8, IntKind.wrap_i64, IntKind.wrap_i32, wrap_u32', wrap_u64', InI]; (repeat' refine And.intro ?_ ?_) <;> omega) | ((repeat' refine And.intro ?_ ?_) <;> first | omega | rfl | exact Nat.le_refl _ | exact Nat.le_of_ble_eq_true rfl | exact bytesF_one _) | (simp_all; done) | (simp_all; omega))) ?_
    | refine r_obj rfl rfl (by (first | omega | exact Nat.le_of_ble_eq_true rfl | (simp only [wrap_u8, IntKind.wrap_i64, IntKind.wrap_i32, wrap_u32', wrap_u64', InI]; (repeat' refine And.intro ?_ ?_) <;> omega) | ((repeat' refine And.intro ?_ ?_) <;> first | omega | rfl | exact Nat.le_refl _ | exact Nat.le_of_ble_eq_true rfl | exact bytesF_one _) | (simp_all; done) | (simp_all; omega))) ?_ | refine r_sto rfl (by (first | omega | exact Nat.le_of_ble_eq_true rfl | (simp only [wrap_u8, IntKind.wrap_i64, IntKind.wrap_i32, wrap_u32', wrap_u64', InI]; (repeat' refine And.intro ?_ ?_) <;> omega) | ((repeat' refine And.intro ?_ ?_) <;> first | omega | rfl | exact Nat.le_refl _ | exact Nat.le_of_ble_eq_true rfl | exact bytesF_one _) | (simp_all; done) | (simp_all; omega))) ?_ | refine r_gobj rfl rfl rfl rfl (by (first | omega | exact Nat.le_of_ble_eq_true rfl | (simp only [wrap_u8, IntKind.wrap_i64, IntKind.wrap_i32, wrap_u32', wrap_u64', InI]; (repeat' refine And.intro ?_ ?_) <;> omega) | ((repeat' refine And.intro ?_ ?_) <;> first | omega | rfl | exact Nat.le_refl _ | exact Nat.le_of_ble_eq_true rfl | exact bytesF_one _) | (simp_all; done) | (simp_all; omega))) ?_
    | refine e_hit rfl ?_ | refine e_miss rfl ?_
    | refine ⟨by kernel_rfl, ?_⟩ | refine x_end rfl ?_ | ((with_reducible refine c_grd ?_); (fail_if_success (refine c_lit true rfl rfl rfl ?_)); (fail_if_success (refine c_lit false rfl rfl rfl ?_)); refine c_split rfl rfl (fun _ => ?_) (fun _ => ?_)))
  refine T.weakF 4 (slW .u64 []) (.nil 1 _) ?_
  refine T.shutF 5 _ rfl ?_
  refine T.weakF 5 (slW .u64 [1]) (slW_weak .u64 [1] 1 _ rfl fun i hi => by rw [show i = 0 by omega]; rfl) ?_
  refine T.loop hL (fun i : Nat => [(1, .pv 1 0), (4, slW .u64 (dgW 65536 (s.take i))), (5, slW .u64 [1]), (6, .i .i64 i)]) (fun _ => [(1, .var [.b neg, .s s, .i .i64 e])]) (fun i => i ≤ s.length) (fun i => s.length - i) 0
    (Nat.zero_le _) ⟨⟨rfl, rfl, rfl, rfl, trivial⟩, ⟨rfl, trivial⟩, rfl, by rw [hX]; intro k hk; cases hk⟩ ?_
  intro i g1
  have hw := dgW_ok (B := 65536) (by omega) i (s.take i) (by simp; omega)
  have hr := at_range s i
  have c1 := times_ctr (dgW 65536 (s.take i)) 10 ((s.getD i 0).toNat - 48) hw.2.1 (by omega) (by have := (s.getD i 0).toNat_lt; omega) (by omega)
  have e1 : i < s.length → IntKind.u64.wrap (IntKind.u64.wrap (at' s i) - 48) = (((s.getD i 0).toNat - 48 : Nat) : Int) := fun hi => by
    obtain ⟨k1, k2, k3⟩ := at_dig hd i hi
    rw [wrap_u64', wrap_u64']
    omega
  repeat' (first
    | with_reducible refine t_seq ?_ | with_reducible refine t_region ?_ | with_reducible refine c_nil ?_ | with_reducible refine n_then ?_
    | with_reducible refine t_ret ?_ | with_reducible refine t_skip ?_ | with_reducible refine t_exit ?_ | with_reducible refine t_block ?_
    | with_reducible refine n_block ?_ | with_reducible refine e_then ?_ | with_reducible refine x_then ?_ | with_reducible refine x_block ?_ | with_reducible refine t_draw ?_
    | refine r_val rfl rfl True.intro ?_ | refine r_gskip rfl rfl rfl ?_ | refine r_gskip2 rfl rfl rfl ?_ | refine r_gval rfl rfl rfl rfl True.intro ?_
    | refine t_true rfl ?_ | refine t_false rfl ?_
    | ((first | refine t_cond_d rfl (fun _ => ?_) (fun _ => ?_) | refine t_cond_i rfl (fun _ => ?_) (fun _ => ?_) | refine t_cond_j rfl (fun _ => ?_) (fun _ => ?_) | refine t_cond_s rfl (fun _ => ?_) (fun _ => ?_) | refine t_cond_n rfl (fun _ => ?_) (fun _ => ?_) | refine t_cond rfl (fun _ => ?_) (fun _ => ?_) | refine c_split_d rfl rfl (fun _ => ?_) (fun _ => ?_) | refine c_split_i rfl rfl (fun _ => ?_) (fun _ => ?_) | refine c_split_j rfl rfl (fun _ => ?_) (fun _ => ?_) | refine c_split_s rfl rfl (fun _ => ?_) (fun _ => ?_) | refine c_split_n rfl rfl (fun _ => ?_) (fun _ => ?_)) <;> try (first | (rename_i hz; exact Bool.noConfusion (show true = false from hz)) | (rename_i hz; exact Bool.noConfusion (show false = true from hz)) | (exfalso; omega)))
    | refine r_val rfl rfl (by (first | omega | exact Nat.le_of_ble_eq_true rfl | (simp only [wrap_u8, IntKind.wrap_i64, IntKind.wrap_i32, wrap_u32', wrap_u64', InI]; (repeat' refine And.intro ?_ ?_) <;> omega) | ((repeat' refine And.intro ?_ ?_) <;> first | omega | rfl | exact Nat.le_refl _ | exact Nat.le_of_ble_eq_true rfl | exact bytesF_one _) | (simp_all; done) | (simp_all; omega))) ?_ | refine r_gval rfl rfl rfl rfl (by (first | omega | exact Nat.le_of_ble_eq_true rfl | (simp only [wrap_u8, IntKind.wrap_i64, IntKind.wrap_i32, wrap_u32', wrap_u64', InI]; (repeat' refine And.intro ?_ ?_) <;> omega) | ((repeat' refine And.intro ?_ ?_) <;> first | omega | rfl | exact Nat.le_refl _ | exact Nat.le_of_ble_eq_true rfl | exact bytesF_one _) | (simp_all; done) | (simp_all; omega))) ?_
    | refine r_obj rfl rfl (by (first | omega | exact Nat.le_of_ble_eq_true rfl | (simp only [wrap_u8, IntKind.wrap_i64, IntKind.wrap_i32, wrap_u32', wrap_u64', InI]; (repeat' refine And.intro ?_ ?_) <;> omega) | ((repeat' refine And.intro ?_ ?_) <;> first | omega | rfl | exact Nat.le_refl _ | exact Nat.le_of_ble_eq_true rfl | exact bytesF_one _) | (simp_all; done) | (simp_all; omega))) ?_ | refine r_sto rfl (by (first | omega | exact Nat.le_of_ble_eq_true rfl | (simp only [wrap_u8, IntKind.wrap_i64, IntKind.wrap_i32, wrap_u32', wrap_u64', InI]; (repeat' refine And.intro ?_ ?_) <;> omega) | ((repeat' refine And.intro ?_ ?_) <;> first | omega | rfl | exact Nat.le_refl _ | exact Nat.le_of_ble_eq_true rfl | exact bytesF_one _) | (simp_all; done) | (simp_all; omega))) ?_ | refine r_gobj rfl rfl rfl rfl (by (first | omega | exact Nat.le_of_ble_eq_true rfl | (simp only [wrap_u8, IntKind.wrap_i64, IntKind.wrap_i32, wrap_u32', wrap_u64', InI]; (repeat' refine And.intro ?_ ?_) <;> omega) | ((repeat' refine And.intro ?_ ?_) <;> first | omega | rfl | exact Nat.le_refl _ | exact Nat.le_of_ble_eq_true rfl | exact bytesF_one _) | (simp_all; done) | (simp_all; omega))) ?_
    | refine e_hit rfl ?_ | refine e_miss rfl ?_
    | refine ⟨by kernel_rfl, ?_⟩ | refine x_end rfl ?_ | refine r_call (f := 133) rfl rfl Tryd.call133 rfl (by rw [e1 (by omega)]; exact c1) ?_ | ((with_reducible refine c_grd ?_); (fail_if_success (refine c_lit true rfl rfl rfl ?_)); (fail_if_success (refine c_lit false rfl rfl rfl ?_)); refine c_split rfl rfl (fun _ => ?_) (fun _ => ?_)))
  · have hi : i < s.length := by omega
    refine ⟨i + 1, by omega, by omega, ⟨rfl, ?_, rfl, rfl, trivial⟩, ⟨rfl, trivial⟩, rfl, by rw [hX]; intro k hk; cases hk⟩
    rw [take_snoc s i hi, dgW_snoc]
    rfl
  have hi : i = s.length := by omega
  subst hi
  simp only [List.take_length] at hw c1 ⊢
  refine T.loop hL (fun k : Nat => [(1, .pv 1 0), (4, slW .u64 (mulN 65536 k (dgW 65536 s))), (5, slW .u64 [1]), (7, .i .i64 k)]) (fun _ => [(1, .var [.b neg, .s s, .i .i64 e])]) (fun k => k ≤ e.toNat) (fun k => e.toNat - k) 0
    (Nat.zero_le _) ⟨⟨rfl, rfl, rfl, rfl, trivial⟩, ⟨rfl, trivial⟩, rfl, by rw [hX]; intro k hk; cases hk⟩ ?_
  intro k g2
  have hm := mulN_ok (B := 65536) (by omega) k _ hw.2.1
  have c2 := times_ctr (mulN 65536 k (dgW 65536 s)) 10 0 hm.2.1 (by omega) (by omega) (by omega)
  clear c1 e1
  repeat' (first
    | with_reducible refine t_seq ?_ | with_reducible refine t_region ?_ | with_reducible refine c_nil ?_ | with_reducible refine n_then ?_
    | with_reducible refine t_ret ?_ | with_reducible refine t_skip ?_ | with_reducible refine t_exit ?_ | with_reducible refine t_block ?_
    | with_reducible refine n_block ?_ | with_reducible refine e_then ?_ | with_reducible refine x_then ?_ | with_reducible refine x_block ?_ | with_reducible refine t_draw ?_
    | refine r_val rfl rfl True.intro ?_ | refine r_gskip rfl rfl rfl ?_ | refine r_gskip2 rfl rfl rfl ?_ | refine r_gval rfl rfl rfl rfl True.intro ?_
    | refine t_true rfl ?_ | refine t_false rfl ?_
    | ((first | refine t_cond_d rfl (fun _ => ?_) (fun _ => ?_) | refine t_cond_i rfl (fun _ => ?_) (fun _ => ?_) | refine t_cond_j rfl (fun _ => ?_) (fun _ => ?_) | refine t_cond_s rfl (fun _ => ?_) (fun _ => ?_) | refine t_cond_n rfl (fun _ => ?_) (fun _ => ?_) | refine t_cond rfl (fun _ => ?_) (fun _ => ?_) | refine c_split_d rfl rfl (fun _ => ?_) (fun _ => ?_) | refine c_split_i rfl rfl (fun _ => ?_) (fun _ => ?_) | refine c_split_j rfl rfl (fun _ => ?_) (fun _ => ?_) | refine c_split_s rfl rfl (fun _ => ?_) (fun _ => ?_) | refine c_split_n rfl rfl (fun _ => ?_) (fun _ => ?_)) <;> try (first | (rename_i hz; exact Bool.noConfusion (show true = false from hz)) | (rename_i hz; exact Bool.noConfusion (show false = true from hz)) | (exfalso; omega)))
    | refine r_val rfl rfl (by (first | omega | exact Nat.le_of_ble_eq_true rfl | (simp only [wrap_u8, IntKind.wrap_i64, IntKind.wrap_i32, wrap_u32', wrap_u64', InI]; (repeat' refine And.intro ?_ ?_) <;> omega) | ((repeat' refine And.intro ?_ ?_) <;> first | omega | rfl | exact Nat.le_refl _ | exact Nat.le_of_ble_eq_true rfl | exact bytesF_one _) | (simp_all; done) | (simp_all; omega))) ?_ | refine r_gval rfl rfl rfl rfl (by (first | omega | exact Nat.le_of_ble_eq_true rfl | (simp only [wrap_u8, IntKind.wrap_i64, IntKind.wrap_i32, wrap_u32', wrap_u64', InI]; (repeat' refine And.intro ?_ ?_) <;> omega) | ((repeat' refine And.intro ?_ ?_) <;> first | omega | rfl | exact Nat.le_refl _ | exact Nat.le_of_ble_eq_true rfl | exact bytesF_one _) | (simp_all; done) | (simp_all; omega))) ?_
    | refine r_obj rfl rfl (by (first | omega | exact Nat.le_of_ble_eq_true rfl | (simp only [wrap_u8, IntKind.wrap_i64, IntKind.wrap_i32, wrap_u32', wrap_u64', InI]; (repeat' refine And.intro ?_ ?_) <;> omega) | ((repeat' refine And.intro ?_ ?_) <;> first | omega | rfl | exact Nat.le_refl _ | exact Nat.le_of_ble_eq_true rfl | exact bytesF_one _) | (simp_all; done) | (simp_all; omega))) ?_ | refine r_sto rfl (by (first | omega | exact Nat.le_of_ble_eq_true rfl | (simp only [wrap_u8, IntKind.wrap_i64, IntKind.wrap_i32, wrap_u32', wrap_u64', InI]; (repeat' refine And.intro ?_ ?_) <;> omega) | ((repeat' refine And.intro ?_ ?_) <;> first | omega | rfl | exact Nat.le_refl _ | exact Nat.le_of_ble_eq_true rfl | exact bytesF_one _) | (simp_all; done) | (simp_all; omega))) ?_ | refine r_gobj rfl rfl rfl rfl (by (first | omega | exact Nat.le_of_ble_eq_true rfl | (simp only [wrap_u8, IntKind.wrap_i64, IntKind.wrap_i32, wrap_u32', wrap_u64', InI]; (repeat' refine And.intro ?_ ?_) <;> omega) | ((repeat' refine And.intro ?_ ?_) <;> first | omega | rfl | exact Nat.le_refl _ | exact Nat.le_of_ble_eq_true rfl | exact bytesF_one _) | (simp_all; done) | (simp_all; omega))) ?_
    | refine e_hit rfl ?_ | refine e_miss rfl ?_
    | refine ⟨by kernel_rfl, ?_⟩ | refine x_end rfl ?_ | refine r_call (f := 133) rfl rfl Tryd.call133 rfl c2 ?_ | ((with_reducible refine c_grd ?_); (fail_if_success (refine c_lit true rfl rfl rfl ?_)); (fail_if_success (refine c_lit false rfl rfl rfl ?_)); refine c_split rfl rfl (fun _ => ?_) (fun _ => ?_)))
  · exact ⟨k + 1, by omega, by omega, ⟨rfl, rfl, rfl, rfl, trivial⟩, ⟨rfl, trivial⟩, rfl, by rw [hX]; intro k hk; cases hk⟩
  have hk : k = e.toNat := by omega
  subst hk
  refine T.loop hL (fun k : Nat => [(1, .pv 1 0), (4, slW .u64 (ratN 65536 s e)), (5, slW .u64 (mulN 65536 k [1])), (8, .i .i64 k)]) (fun _ => [(1, .var [.b neg, .s s, .i .i64 e])]) (fun k => k ≤ (-e).toNat) (fun k => (-e).toNat - k) 0
    (Nat.zero_le _) ⟨⟨rfl, rfl, rfl, rfl, trivial⟩, ⟨rfl, trivial⟩, rfl, by rw [hX]; intro k hk; cases hk⟩ ?_
  intro k g2
  have hm := mulN_ok (B := 65536) (by omega) k [1] (wsm_cons.2 ⟨by omega, wsm_nil _⟩)
  have c2 := times_ctr (mulN 65536 k [1]) 10 0 hm.2.1 (by omega) (by omega) (by have := hm.2.2.2; simp at this; omega)
  repeat' (first
    | with_reducible refine t_seq ?_ | with_reducible refine t_region ?_ | with_reducible refine c_nil ?_ | with_reducible refine n_then ?_
    | with_reducible refine t_ret ?_ | with_reducible refine t_skip ?_ | with_reducible refine t_exit ?_ | with_reducible refine t_block ?_
    | with_reducible refine n_block ?_ | with_reducible refine e_then ?_ | with_reducible refine x_then ?_ | with_reducible refine x_block ?_ | with_reducible refine t_draw ?_
    | refine r_val rfl rfl True.intro ?_ | refine r_gskip rfl rfl rfl ?_ | refine r_gskip2 rfl rfl rfl ?_ | refine r_gval rfl rfl rfl rfl True.intro ?_
    | refine t_true rfl ?_ | refine t_false rfl ?_
    | ((first | refine t_cond_d rfl (fun _ => ?_) (fun _ => ?_) | refine t_cond_i rfl (fun _ => ?_) (fun _ => ?_) | refine t_cond_j rfl (fun _ => ?_) (fun _ => ?_) | refine t_cond_s rfl (fun _ => ?_) (fun _ => ?_) | refine t_cond_n rfl (fun _ => ?_) (fun _ => ?_) | refine t_cond rfl (fun _ => ?_) (fun _ => ?_) | refine c_split_d rfl rfl (fun _ => ?_) (fun _ => ?_) | refine c_split_i rfl rfl (fun _ => ?_) (fun _ => ?_) | refine c_split_j rfl rfl (fun _ => ?_) (fun _ => ?_) | refine c_split_s rfl rfl (fun _ => ?_) (fun _ => ?_) | refine c_split_n rfl rfl (fun _ => ?_) (fun _ => ?_)) <;> try (first | (rename_i hz; exact Bool.noConfusion (show true = false from hz)) | (rename_i hz; exact Bool.noConfusion (show false = true from hz)) | (exfalso; omega)))
    | refine r_val rfl rfl (by (first | omega | exact Nat.le_of_ble_eq_true rfl | (simp only [wrap_u8, IntKind.wrap_i64, IntKind.wrap_i32, wrap_u32', wrap_u64', InI]; (repeat' refine And.intro ?_ ?_) <;> omega) | ((repeat' refine And.intro ?_ ?_) <;> first | omega | rfl | exact Nat.le_refl _ | exact Nat.le_of_ble_eq_true rfl | exact bytesF_one _) | (simp_all; done) | (simp_all; omega))) ?_ | refine r_gval rfl rfl rfl rfl (by (first | omega | exact Nat.le_of_ble_eq_true rfl | (simp only [wrap_u8, IntKind.wrap_i64, IntKind.wrap_i32, wrap_u32', wrap_u64', InI]; (repeat' refine And.intro ?_ ?_) <;> omega) | ((repeat' refine And.intro ?_ ?_) <;> first | omega | rfl | exact Nat.le_refl _ | exact Nat.le_of_ble_eq_true rfl | exact bytesF_one _) | (simp_all; done) | (simp_all; omega))) ?_
    | refine r_obj rfl rfl (by (first | omega | exact Nat.le_of_ble_eq_true rfl | (simp only [wrap_u8, IntKind.wrap_i64, IntKind.wrap_i32, wrap_u32', wrap_u64', InI]; (repeat' refine And.intro ?_ ?_) <;> omega) | ((repeat' refine And.intro ?_ ?_) <;> first | omega | rfl | exact Nat.le_refl _ | exact Nat.le_of_ble_eq_true rfl | exact bytesF_one _) | (simp_all; done) | (simp_all; omega))) ?_ | refine r_sto rfl (by (first | omega | exact Nat.le_of_ble_eq_true rfl | (simp only [wrap_u8, IntKind.wrap_i64, IntKind.wrap_i32, wrap_u32', wrap_u64', InI]; (repeat' refine And.intro ?_ ?_) <;> omega) | ((repeat' refine And.intro ?_ ?_) <;> first | omega | rfl | exact Nat.le_refl _ | exact Nat.le_of_ble_eq_true rfl | exact bytesF_one _) | (simp_all; done) | (simp_all; omega))) ?_ | refine r_gobj rfl rfl rfl rfl (by (first | omega | exact Nat.le_of_ble_eq_true rfl | (simp only [wrap_u8, IntKind.wrap_i64, IntKind.wrap_i32, wrap_u32', wrap_u64', InI]; (repeat' refine And.intro ?_ ?_) <;> omega) | ((repeat' refine And.intro ?_ ?_) <;> first | omega | rfl | exact Nat.le_refl _ | exact Nat.le_of_ble_eq_true rfl | exact bytesF_one _) | (simp_all; done) | (simp_all; omega))) ?_
    | refine e_hit rfl ?_ | refine e_miss rfl ?_
    | refine ⟨by kernel_rfl, ?_⟩ | refine x_end rfl ?_ | refine r_call (f := 133) rfl rfl Tryd.call133 rfl c2 ?_ | ((with_reducible refine c_grd ?_); (fail_if_success (refine c_lit true rfl rfl rfl ?_)); (fail_if_success (refine c_lit false rfl rfl rfl ?_)); refine c_split rfl rfl (fun _ => ?_) (fun _ => ?_)))
  · exact ⟨k + 1, by omega, by omega, ⟨rfl, rfl, rfl, rfl, trivial⟩, ⟨rfl, trivial⟩, rfl, by rw [hX]; intro k hk; cases hk⟩
  have hk : k = (-e).toNat := by omega
  subst hk
  rfl

theorem ragainst_ctr (a b : List Nat) (m : Nat) (e : Int) (ha : wsm 65536 a) (hb : wsm 65536 b) (hm : m < 18446744073709551616) (la : a.length ≤ 10000) (lb : b.length ≤ 10000) (h1 : -4096 ≤ e) (h2 : e ≤ 4096) :
    Ctr Tryd.prog 102 [slW .u64 a, slW .u64 b, .i .u64 m, .i .i64 e] (.i .i64 (cmpQ (val 65536 a) (val 65536 b) m e)) := by
  have c1 := both_ctr b m hb hm (by omega)
  have hbd := both_bound hb hm
  obtain ⟨m1, m2, m3⟩ := dig_ok (B := 65536) (by omega) (b.length + 5) (val 65536 b * m) (Nat.lt_of_lt_of_le hbd (Nat.pow_le_pow_right (by omega) (by omega)))
  generalize dig 65536 (b.length + 5) (val 65536 b * m) = d at c1 m1 m2 m3
  obtain ⟨p1, p2, p3⟩ := upG_ok d e.toNat m2
  have q1 := up_ctr d e.toNat m2 (by omega) (by omega)
  have r1 := less_ctr a (upG d e.toNat) ha p2 (by omega) (by omega)
  obtain ⟨s1, s2, s3⟩ := upG_ok a (-e).toNat ha
  have q2 := up_ctr a (-e).toNat ha (by omega) (by omega)
  have r2 := less_ctr (upG a (-e).toNat) d s2 m2 (by omega) (by omega)
  clear hbd
  refine r_fun Tryd.func102 rfl Tryd.ntmps102 Tryd.results102 rfl rfl fun X hL hX => ?_
  repeat' (first
    | with_reducible refine t_seq ?_ | with_reducible refine t_region ?_ | with_reducible refine c_nil ?_ | with_reducible refine n_then ?_
    | with_reducible refine t_ret ?_ | with_reducible refine t_skip ?_ | with_reducible refine t_exit ?_ | with_reducible refine t_block ?_
    | with_reducible refine n_block ?_ | with_reducible refine e_then ?_ | with_reducible refine x_then ?_ | with_reducible refine x_block ?_ | with_reducible refine t_draw ?_
    | refine r_val rfl rfl True.intro ?_ | refine r_gskip rfl rfl rfl ?_ | refine r_gskip2 rfl rfl rfl ?_ | refine r_gval rfl rfl rfl rfl True.intro ?_
    | refine t_true rfl ?_ | refine t_false rfl ?_
    | ((first | refine t_cond_d rfl (fun _ => ?_) (fun _ => ?_) | refine t_cond_i rfl (fun _ => ?_) (fun _ => ?_) | refine t_cond_j rfl (fun _ => ?_) (fun _ => ?_) | refine t_cond_s rfl (fun _ => ?_) (fun _ => ?_) | refine t_cond_n rfl (fun _ => ?_) (fun _ => ?_) | refine t_cond rfl (fun _ => ?_) (fun _ => ?_) | refine c_split_d rfl rfl (fun _ => ?_) (fun _ => ?_) | refine c_split_i rfl rfl (fun _ => ?_) (fun _ => ?_) | refine c_split_j rfl rfl (fun _ => ?_) (fun _ => ?_) | refine c_split_s rfl rfl (fun _ => ?_) (fun _ => ?_) | refine c_split_n rfl rfl (fun _ => ?_) (fun _ => ?_)) <;> try (first | (rename_i hz; exact Bool.noConfusion (show true = false from hz)) | (rename_i hz; exact Bool.noConfusion (show false = true from hz)) | (exfalso; omega)))
    | refine r_val rfl rfl (by (first | omega | exact Nat.le_of_ble_eq_true rfl | (simp only [wrap_u8, IntKind.wrap_i64, IntKind.wrap_i32, wrap_u32', wrap_u64', InI]; (repeat' refine And.intro ?_ ?_) <;> omega) | ((repeat' refine And.intro ?_ ?_) <;> first | omega | rfl | exact Nat.le_refl _ | exact Nat.le_of_ble_eq_true rfl | exact bytesF_one _) | (simp_all; done) | (simp_all; omega))) ?_ | refine r_gval rfl rfl rfl rfl (by (first | omega | exact Nat.le_of_ble_eq_true rfl | (simp only [wrap_u8, IntKind.wrap_i64, IntKind.wrap_i32, wrap_u32', wrap_u64', InI]; (repeat' refine And.intro ?_ ?_) <;> omega) | ((repeat' refine And.intro ?_ ?_) <;> first | omega | rfl | exact Nat.le_refl _ | exact Nat.le_of_ble_eq_true rfl | exact bytesF_one _) | (simp_all; done) | (simp_all; omega))) ?_
    | refine r_obj rfl rfl (by (first | omega | exact Nat.le_of_ble_eq_true rfl | (simp only [wrap_u8, IntKind.wrap_i64, IntKind.wrap_i32, wrap_u32', wrap_u64', InI]; (repeat' refine And.intro ?_ ?_) <;> omega) | ((repeat' refine And.intro ?_ ?_) <;> first | omega | rfl | exact Nat.le_refl _ | exact Nat.le_of_ble_eq_true rfl | exact bytesF_one _) | (simp_all; done) | (simp_all; omega))) ?_ | refine r_sto rfl (by (first | omega | exact Nat.le_of_ble_eq_true rfl | (simp only [wrap_u8, IntKind.wrap_i64, IntKind.wrap_i32, wrap_u32', wrap_u64', InI]; (repeat' refine And.intro ?_ ?_) <;> omega) | ((repeat' refine And.intro ?_ ?_) <;> first | omega | rfl | exact Nat.le_refl _ | exact Nat.le_of_ble_eq_true rfl | exact bytesF_one _) | (simp_all; done) | (simp_all; omega))) ?_ | refine r_gobj rfl rfl rfl rfl (by (first | omega | exact Nat.le_of_ble_eq_true rfl | (simp only [wrap_u8, IntKind.wrap_i64, IntKind.wrap_i32, wrap_u32', wrap_u64', InI]; (repeat' refine And.intro ?_ ?_) <;> omega) | ((repeat' refine And.intro ?_ ?_) <;> first | omega | rfl | exact Nat.le_refl _ | exact Nat.le_of_ble_eq_true rfl | exact bytesF_one _) | (simp_all; done) | (simp_all; omega))) ?_
    | refine e_hit rfl ?_ | refine e_miss rfl ?_
    | refine ⟨by kernel_rfl, ?_⟩ | refine x_end rfl ?_ | refine r_call (f := 136) rfl rfl Tryd.call136 rfl c1 ?_ | refine r_call (f := 135) rfl rfl Tryd.call135 rfl (by rw [show e = ((e.toNat : Nat) : Int) by omega]; exact q1) ?_ | refine r_call (f := 135) rfl rfl Tryd.call135 rfl (by rw [show -e = (((-e).toNat : Nat) : Int) by omega]; exact q2) ?_ | refine r_call (f := 134) rfl rfl Tryd.call134 rfl r1 ?_ | refine r_call (f := 134) rfl rfl Tryd.call134 rfl r2 ?_ | ((with_reducible refine c_grd ?_); (fail_if_success (refine c_lit true rfl rfl rfl ?_)); (fail_if_success (refine c_lit false rfl rfl rfl ?_)); refine c_split rfl rfl (fun _ => ?_) (fun _ => ?_)))
  · unfold cmpQ
    rw [if_pos ‹_›, p1, m1]
  · unfold cmpQ
    rw [if_neg ‹_›, s1, m1]

end Go.Proofs.YteidmimpkipcfaaDoor.Flow

/- FLOAT: the reference: which decimals have bits, and are these the nearest number's? -/
namespace Go.Proofs.YteidmimpkipcfaaDoor.Flow
open Go

theorem rright19_bad (neg : Bool) (s : List UInt8) (e : Int) (hs : s.length ≤ 1099511627776) (h : ¬ RightP neg s e) : Ctr Tryd.prog 60 [dcD neg s e] (.i .i64 1) := by
  have c1 := rright_ctr neg s e hs
  rw [rightB_not h] at c1
  refine r_fun Tryd.func60 rfl Tryd.ntmps60 Tryd.results60 rfl rfl fun X hL hX => ?_
  repeat' (first
    | with_reducible refine t_seq ?_ | with_reducible refine t_region ?_ | with_reducible refine c_nil ?_ | with_reducible refine n_then ?_
    | with_reducible refine t_ret ?_ | with_reducible refine t_skip ?_ | with_reducible refine t_exit ?_ | with_reducible refine t_block ?_
    | with_reducible refine n_block ?_ | with_reducible refine e_then ?_ | with_reducible refine x_then ?_ | with_reducible refine x_block ?_ | with_reducible refine t_draw ?_
    | refine r_val rfl rfl True.intro ?_ | refine r_gskip rfl rfl rfl ?_ | refine r_gskip2 rfl rfl rfl ?_ | refine r_gval rfl rfl rfl rfl True.intro ?_
    | refine t_true rfl ?_ | refine t_false rfl ?_
    | ((first | refine t_cond_d rfl (fun _ => ?_) (fun _ => ?_) | refine t_cond_i rfl (fun _ => ?_) (fun _ => ?_) | refine t_cond_j rfl (fun _ => ?_) (fun _ => ?_) | refine t_cond_s rfl (fun _ => ?_) (fun _ => ?_) | refine t_cond_n rfl (fun _ => ?_) (fun _ => ?_) | refine t_cond rfl (fun _ => ?_) (fun _ => ?_) | refine c_split_d rfl rfl (fun _ => ?_) (fun _ => ?_) | refine c_split_i rfl rfl (fun _ => ?_) (fun _ => ?_) | refine c_split_j rfl rfl (fun _ => ?_) (fun _ => ?_) | refine c_split_s rfl rfl (fun _ => ?_) (fun _ => ?_) | refine c_split_n rfl rfl (fun _ => ?_) (fun _ => ?_)) <;> try (first | (rename_i hz; exact Bool.noConfusion (show true = false from hz)) | (rename_i hz; exact Bool.noConfusion (show false = true from hz)) | (exfalso; omega)))
    | refine r_val rfl rfl (by (first | omega | exact Nat.le_of_ble_eq_true rfl | (simp only [wrap_u8, IntKind.wrap_i64, IntKind.wrap_i32, wrap_u32', wrap_u64', InI]; (repeat' refine And.intro ?_ ?_) <;> omega) | ((repeat' refine And.intro ?_ ?_) <;> first | omega | rfl | exact Nat.le_refl _ | exact Nat.le_of_ble_eq_true rfl | exact bytesF_one _) | (simp_all; done) | (simp_all; omega))) ?_ | refine r_gval rfl rfl rfl rfl (by (first | omega | exact Nat.le_of_ble_eq_true rfl | (simp only [wrap_u8, IntKind.wrap_i64, IntKind.wrap_i32, wrap_u32', wrap_u64', InI]; (repeat' refine And.intro ?_ ?_) <;> omega) | ((repeat' refine And.intro ?_ ?_) <;> first | omega | rfl | exact Nat.le_refl _ | exact Nat.le_of_ble_eq_true rfl | exact bytesF_one _) | (simp_all; done) | (simp_all; omega))) ?_
    | refine r_obj rfl rfl (by (first | omega | exact Nat.le_of_ble_eq_true rfl | (simp only [wrap_u8, IntKind.wrap_i64, IntKind.wrap_i32, wrap_u32', wrap_u64', InI]; (repeat' refine And.intro ?_ ?_) <;> omega) | ((repeat' refine And.intro ?_ ?_) <;> first | omega | rfl | exact Nat.le_refl _ | exact Nat.le_of_ble_eq_true rfl | exact bytesF_one _) | (simp_all; done) | (simp_all; omega))) ?_ | refine r_sto rfl (by (first | omega | exact Nat.le_of_ble_eq_true rfl | (simp only [wrap_u8, IntKind.wrap_i64, IntKind.wrap_i32, wrap_u32', wrap_u64', InI]; (repeat' refine And.intro ?_ ?_) <;> omega) | ((repeat' refine And.intro ?_ ?_) <;> first | omega | rfl | exact Nat.le_refl _ | exact Nat.le_of_ble_eq_true rfl | exact bytesF_one _) | (simp_all; done) | (simp_all; omega))) ?_ | refine r_gobj rfl rfl rfl rfl (by (first | omega | exact Nat.le_of_ble_eq_true rfl | (simp only [wrap_u8, IntKind.wrap_i64, IntKind.wrap_i32, wrap_u32', wrap_u64', InI]; (repeat' refine And.intro ?_ ?_) <;> omega) | ((repeat' refine And.intro ?_ ?_) <;> first | omega | rfl | exact Nat.le_refl _ | exact Nat.le_of_ble_eq_true rfl | exact bytesF_one _) | (simp_all; done) | (simp_all; omega))) ?_
    | refine e_hit rfl ?_ | refine e_miss rfl ?_
    | refine ⟨by kernel_rfl, ?_⟩ | refine x_end rfl ?_ | refine r_call (f := 42) rfl rfl Tryd.call42 rfl c1 ?_ | ((with_reducible refine c_grd ?_); (fail_if_success (refine c_lit true rfl rfl rfl ?_)); (fail_if_success (refine c_lit false rfl rfl rfl ?_)); refine c_split rfl rfl (fun _ => ?_) (fun _ => ?_)))
  rfl

theorem rright19_ok (neg : Bool) (s : List UInt8) (e : Int) (h : RightP neg s e) (o : Int) (ho : (overB (numV s e) (denV e) ∧ o = 8) ∨ (¬ overB (numV s e) (denV e) ∧ o = 0)) : Ctr Tryd.prog 60 [dcD neg s e] (.i .i64 o) := by
  obtain ⟨b1, b2, b3, b4⟩ := h.bounds
  have c1 := rright_ctr neg s e (by omega)
  rw [rightB_iff.2 h] at c1
  have c2 := rratio_ctr neg s e h
  obtain ⟨n1, n2, n3, n4⟩ := ratN_ok (B := 65536) (by omega) s e
  obtain ⟨d1, d2, d3, d4⟩ := ratD_ok (B := 65536) (by omega) e
  have c3 := ragainst_ctr (ratN 65536 s e) (ratD 65536 e) 18014398509481983 970 n2 d2 (by omega) (by omega) (by omega) (by omega) (by omega)
  rw [n1, d1] at c3
  unfold overB at ho
  generalize cmpQ (numV s e) (denV e) 18014398509481983 970 = q at c3 ho
  refine r_fun Tryd.func60 rfl Tryd.ntmps60 Tryd.results60 rfl rfl fun X hL hX => ?_
  repeat' (first
    | with_reducible refine t_seq ?_ | with_reducible refine t_region ?_ | with_reducible refine c_nil ?_ | with_reducible refine n_then ?_
    | with_reducible refine t_ret ?_ | with_reducible refine t_skip ?_ | with_reducible refine t_exit ?_ | with_reducible refine t_block ?_
    | with_reducible refine n_block ?_ | with_reducible refine e_then ?_ | with_reducible refine x_then ?_ | with_reducible refine x_block ?_ | with_reducible refine t_draw ?_
    | refine r_val rfl rfl True.intro ?_ | refine r_gskip rfl rfl rfl ?_ | refine r_gskip2 rfl rfl rfl ?_ | refine r_gval rfl rfl rfl rfl True.intro ?_
    | refine t_true rfl ?_ | refine t_false rfl ?_
    | ((first | refine t_cond_d rfl (fun _ => ?_) (fun _ => ?_) | refine t_cond_i rfl (fun _ => ?_) (fun _ => ?_) | refine t_cond_j rfl (fun _ => ?_) (fun _ => ?_) | refine t_cond_s rfl (fun _ => ?_) (fun _ => ?_) | refine t_cond_n rfl (fun _ => ?_) (fun _ => ?_) | refine t_cond rfl (fun _ => ?_) (fun _ => ?_) | refine c_split_d rfl rfl (fun _ => ?_) (fun _ => ?_) | refine c_split_i rfl rfl (fun _ => ?_) (fun _ => ?_) | refine c_split_j rfl rfl (fun _ => ?_) (fun _ => ?_) | refine c_split_s rfl rfl (fun _ => ?_) (fun _ => ?_) | refine c_split_n rfl rfl (fun _ => ?_) (fun _ => ?_)) <;> try (first | (rename_i hz; exact Bool.noConfusion (show true = false from hz)) | (rename_i hz; exact Bool.noConfusion (show false = true from hz)) | (exfalso; omega)))
    | refine r_val rfl rfl (by (first | omega | exact Nat.le_of_ble_eq_true rfl | (simp only [wrap_u8, IntKind.wrap_i64, IntKind.wrap_i32, wrap_u32', wrap_u64', InI]; (repeat' refine And.intro ?_ ?_) <;> omega) | ((repeat' refine And.intro ?_ ?_) <;> first | omega | rfl | exact Nat.le_refl _ | exact Nat.le_of_ble_eq_true rfl | exact bytesF_one _) | (simp_all; done) | (simp_all; omega))) ?_ | refine r_gval rfl rfl rfl rfl (by (first | omega | exact Nat.le_of_ble_eq_true rfl | (simp only [wrap_u8, IntKind.wrap_i64, IntKind.wrap_i32, wrap_u32', wrap_u64', InI]; (repeat' refine And.intro ?_ ?_) <;> omega) | ((repeat' refine And.intro ?_ ?_) <;> first | omega | rfl | exact Nat.le_refl _ | exact Nat.le_of_ble_eq_true rfl | exact bytesF_one _) | (simp_all; done) | (simp_all; omega))) ?_
    | refine r_obj rfl rfl (by (first | omega | exact Nat.le_of_ble_eq_true rfl | (simp only [wrap_u8, IntKind.wrap_i64, IntKind.wrap_i32, wrap_u32', wrap_u64', InI]; (repeat' refine And.intro ?_ ?_) <;> omega) | ((repeat' refine And.intro ?_ ?_) <;> first | omega | rfl | exact Nat.le_refl _ | exact Nat.le_of_ble_eq_true rfl | exact bytesF_one _) | (simp_all; done) | (simp_all; omega))) ?_ | refine r_sto rfl (by (first | omega | exact Nat.le_of_ble_eq_true rfl | (simp only [wrap_u8, IntKind.wrap_i64, IntKind.wrap_i32, wrap_u32', wrap_u64', InI]; (repeat' refine And.intro ?_ ?_) <;> omega) | ((repeat' refine And.intro ?_ ?_) <;> first | omega | rfl | exact Nat.le_refl _ | exact Nat.le_of_ble_eq_true rfl | exact bytesF_one _) | (simp_all; done) | (simp_all; omega))) ?_ | refine r_gobj rfl rfl rfl rfl (by (first | omega | exact Nat.le_of_ble_eq_true rfl | (simp only [wrap_u8, IntKind.wrap_i64, IntKind.wrap_i32, wrap_u32', wrap_u64', InI]; (repeat' refine And.intro ?_ ?_) <;> omega) | ((repeat' refine And.intro ?_ ?_) <;> first | omega | rfl | exact Nat.le_refl _ | exact Nat.le_of_ble_eq_true rfl | exact bytesF_one _) | (simp_all; done) | (simp_all; omega))) ?_
    | refine e_hit rfl ?_ | refine e_miss rfl ?_
    | refine ⟨by kernel_rfl, ?_⟩ | refine x_end rfl ?_ | refine r_call (f := 42) rfl rfl Tryd.call42 rfl c1 ?_ | refine r_call (f := 101) rfl rfl Tryd.call101 rfl c2 ?_ | refine r_call (f := 102) rfl rfl Tryd.call102 rfl c3 ?_ | ((with_reducible refine c_grd ?_); (fail_if_success (refine c_lit true rfl rfl rfl ?_)); (fail_if_success (refine c_lit false rfl rfl rfl ?_)); refine c_split rfl rfl (fun _ => ?_) (fun _ => ?_)))
  · rw [show o = 8 by omega]
  · rw [show o = 0 by omega]

set_option maxHeartbeats 1000000 in
theorem nearest_ctr (neg : Bool) (s : List UInt8) (e : Int) (h : RightP neg s e) (b : Nat) (hb : b < 18446744073709551616) (hx : xB (b % 9223372036854775808) < 2047) (hn : decide (9223372036854775808 ≤ b) = neg) :
    Ctr Tryd.prog 103 [dcD neg s e, .i .u64 b] (.b (nearB (numV s e) (denV e) (b % 9223372036854775808))) := by
  obtain ⟨b1, b2, b3, b4⟩ := h.bounds
  have c1 := rparts_ctr b hb
  have hp : partsD b = .tu [.b neg, .i .u64 (mB (b % 9223372036854775808)), .i .i64 (eB (b % 9223372036854775808)), .b true] := by
    unfold partsD
    rw [if_neg (by rw [← xP_eq]; omega), hn]
  rw [hp] at c1
  have c2 := rratio_ctr neg s e h
  obtain ⟨n1, n2, n3, n4⟩ := ratN_ok (B := 65536) (by omega) s e
  obtain ⟨d1, d2, d3, d4⟩ := ratD_ok (B := 65536) (by omega) e
  have hm := mB_lt (b % 9223372036854775808)
  have he1 := e_ge (b % 9223372036854775808)
  have he2 := eB_lt (b % 9223372036854775808) (by omega)
  unfold nearB
  generalize mB (b % 9223372036854775808) = m at *
  generalize eB (b % 9223372036854775808) = x at *
  have c3 := ragainst_ctr (ratN 65536 s e) (ratD 65536 e) (2 * m + 1) (x - 1) n2 d2 (by omega) (by omega) (by omega) (by omega) (by omega)
  have c4 := ragainst_ctr (ratN 65536 s e) (ratD 65536 e) (2 * m - 1) (x - 1) n2 d2 (by omega) (by omega) (by omega) (by omega) (by omega)
  have c5 := ragainst_ctr (ratN 65536 s e) (ratD 65536 e) (4 * m - 1) (x - 2) n2 d2 (by omega) (by omega) (by omega) (by omega) (by omega)
  rw [n1, d1] at c3 c4 c5
  have e1 : ∀ _ : Unit, IntKind.u64.wrap (IntKind.u64.wrap (2 * (m : Int)) + 1) = ((2 * m + 1 : Nat) : Int) := fun _ => by
    rw [wrap_u64', wrap_u64']
    omega
  have e2 : ¬ (m : Int) = 0 → IntKind.u64.wrap (IntKind.u64.wrap (2 * (m : Int)) - 1) = ((2 * m - 1 : Nat) : Int) := fun _ => by
    rw [wrap_u64', wrap_u64']
    omega
  have e3 : ¬ (m : Int) = 0 → IntKind.u64.wrap (IntKind.u64.wrap (4 * (m : Int)) - 1) = ((4 * m - 1 : Nat) : Int) := fun _ => by
    rw [wrap_u64', wrap_u64']
    omega
  generalize cmpQ (numV s e) (denV e) (2 * m + 1) (x - 1) = q1 at *
  generalize cmpQ (numV s e) (denV e) (2 * m - 1) (x - 1) = q2 at *
  generalize cmpQ (numV s e) (denV e) (4 * m - 1) (x - 2) = q3 at *
  clear hn hp hx n1 d1
  refine r_fun Tryd.func103 rfl Tryd.ntmps103 Tryd.results103 rfl rfl fun X hL hX => ?_
  repeat' (first
    | with_reducible refine t_seq ?_ | with_reducible refine t_region ?_ | with_reducible refine c_nil ?_ | with_reducible refine n_then ?_
    | with_reducible refine t_ret ?_ | with_reducible refine t_skip ?_ | with_reducible refine t_exit ?_ | with_reducible refine t_block ?_
    | with_reducible refine n_block ?_ | with_reducible refine e_then ?_ | with_reducible refine x_then ?_ | with_reducible refine x_block ?_ | with_reducible refine t_draw ?_
    | refine r_val rfl rfl True.intro ?_ | refine r_gskip rfl rfl rfl ?_ | refine r_gskip2 rfl rfl rfl ?_ | refine r_gval rfl rfl rfl rfl True.intro ?_
    | refine t_true rfl ?_ | refine t_false rfl ?_
    | ((first | refine t_cond_d rfl (fun _ => ?_) (fun _ => ?_) | refine t_cond_i rfl (fun _ => ?_) (fun _ => ?_) | refine t_cond_j rfl (fun _ => ?_) (fun _ => ?_) | refine t_cond_s rfl (fun _ => ?_) (fun _ => ?_) | refine t_cond_n rfl (fun _ => ?_) (fun _ => ?_) | refine t_cond rfl (fun _ => ?_) (fun _ => ?_) | refine c_split_d rfl rfl (fun _ => ?_) (fun _ => ?_) | refine c_split_i rfl rfl (fun _ => ?_) (fun _ => ?_) | refine c_split_j rfl rfl (fun _ => ?_) (fun _ => ?_) | refine c_split_s rfl rfl (fun _ => ?_) (fun _ => ?_) | refine c_split_n rfl rfl (fun _ => ?_) (fun _ => ?_)) <;> try (first | (rename_i hz; exact Bool.noConfusion (show true = false from hz)) | (rename_i hz; exact Bool.noConfusion (show false = true from hz)) | (exfalso; omega)))
    | refine r_val rfl rfl (by (first | omega | exact Nat.le_of_ble_eq_true rfl | (simp only [wrap_u8, IntKind.wrap_i64, IntKind.wrap_i32, wrap_u32', wrap_u64', InI]; (repeat' refine And.intro ?_ ?_) <;> omega) | ((repeat' refine And.intro ?_ ?_) <;> first | omega | rfl | exact Nat.le_refl _ | exact Nat.le_of_ble_eq_true rfl | exact bytesF_one _) | (simp_all; done) | (simp_all; omega))) ?_ | refine r_gval rfl rfl rfl rfl (by (first | omega | exact Nat.le_of_ble_eq_true rfl | (simp only [wrap_u8, IntKind.wrap_i64, IntKind.wrap_i32, wrap_u32', wrap_u64', InI]; (repeat' refine And.intro ?_ ?_) <;> omega) | ((repeat' refine And.intro ?_ ?_) <;> first | omega | rfl | exact Nat.le_refl _ | exact Nat.le_of_ble_eq_true rfl | exact bytesF_one _) | (simp_all; done) | (simp_all; omega))) ?_
    | refine r_obj rfl rfl (by (first | omega | exact Nat.le_of_ble_eq_true rfl | (simp only [wrap_u8, IntKind.wrap_i64, IntKind.wrap_i32, wrap_u32', wrap_u64', InI]; (repeat' refine And.intro ?_ ?_) <;> omega) | ((repeat' refine And.intro ?_ ?_) <;> first | omega | rfl | exact Nat.le_refl _ | exact Nat.le_of_ble_eq_true rfl | exact bytesF_one _) | (simp_all; done) | (simp_all; omega))) ?_ | refine r_sto rfl (by (first | omega | exact Nat.le_of_ble_eq_true rfl | (simp only [wrap_u8, IntKind.wrap_i64, IntKind.wrap_i32, wrap_u32', wrap_u64', InI]; (repeat' refine And.intro ?_ ?_) <;> omega) | ((repeat' refine And.intro ?_ ?_) <;> first | omega | rfl | exact Nat.le_refl _ | exact Nat.le_of_ble_eq_true rfl | exact bytesF_one _) | (simp_all; done) | (simp_all; omega))) ?_ | refine r_gobj rfl rfl rfl rfl (by (first | omega | exact Nat.le_of_ble_eq_true rfl | (simp only [wrap_u8, IntKind.wrap_i64, IntKind.wrap_i32, wrap_u32', wrap_u64', InI]; (repeat' refine And.intro ?_ ?_) <;> omega) | ((repeat' refine And.intro ?_ ?_) <;> first | omega | rfl | exact Nat.le_refl _ | exact Nat.le_of_ble_eq_true rfl | exact bytesF_one _) | (simp_all; done) | (simp_all; omega))) ?_
    | refine e_hit rfl ?_ | refine e_miss rfl ?_
    | refine ⟨by kernel_rfl, ?_⟩ | refine x_end rfl ?_ | refine r_call (f := 41) rfl rfl Tryd.call41 rfl c1 ?_ | refine r_call (f := 101) rfl rfl Tryd.call101 rfl c2 ?_ | refine r_call (f := 102) rfl rfl Tryd.call102 rfl (by rw [e1 ()]; exact c3) ?_ | refine r_call (f := 102) rfl rfl Tryd.call102 rfl (by rw [e2 ‹_›]; exact c4) ?_ | refine r_call (f := 102) rfl rfl Tryd.call102 rfl (by rw [e3 ‹_›]; exact c5) ?_ | ((with_reducible refine c_grd ?_); (fail_if_success (refine c_lit true rfl rfl rfl ?_)); (fail_if_success (refine c_lit false rfl rfl rfl ?_)); refine c_split rfl rfl (fun _ => ?_) (fun _ => ?_)))
  all_goals
    clear c1 c2 c3 c4 c5 e1 e2 e3
    first
      | (exfalso; revert ‹_ = false›; simp; done)
      | (congr 1; rw [Bool.eq_iff_iff]; (repeat' split) <;> simp <;> omega)
      | (congr 1; rw [Bool.eq_iff_iff]; (repeat' split) <;> first | omega | (simp; done) | (simp; omega))

end Go.Proofs.YteidmimpkipcfaaDoor.Flow

/- FLOAT: the page's example; the order of decimals. -/
namespace Go.Proofs.YteidmimpkipcfaaDoor.Flow
open Go

theorem code_ctr (e : Int) : Ctr Tryd.prog 15 [.i .i64 e] (.i .i64 e) := by
  refine r_fun Tryd.func15 rfl Tryd.ntmps15 Tryd.results15 rfl rfl fun X hL hX => ?_
  repeat' (first
    | with_reducible refine t_seq ?_ | with_reducible refine t_region ?_ | with_reducible refine c_nil ?_ | with_reducible refine n_then ?_
    | with_reducible refine t_ret ?_ | with_reducible refine t_skip ?_ | with_reducible refine t_exit ?_ | with_reducible refine t_block ?_
    | with_reducible refine n_block ?_ | with_reducible refine e_then ?_ | with_reducible refine x_then ?_ | with_reducible refine x_block ?_ | with_reducible refine t_draw ?_
    | refine r_val rfl rfl True.intro ?_ | refine r_gskip rfl rfl rfl ?_ | refine r_gskip2 rfl rfl rfl ?_ | refine r_gval rfl rfl rfl rfl True.intro ?_
    | refine t_true rfl ?_ | refine t_false rfl ?_
    | ((first | refine t_cond_d rfl (fun _ => ?_) (fun _ => ?_) | refine t_cond_i rfl (fun _ => ?_) (fun _ => ?_) | refine t_cond_j rfl (fun _ => ?_) (fun _ => ?_) | refine t_cond_s rfl (fun _ => ?_) (fun _ => ?_) | refine t_cond_n rfl (fun _ => ?_) (fun _ => ?_) | refine t_cond rfl (fun _ => ?_) (fun _ => ?_) | refine c_split_d rfl rfl (fun _ => ?_) (fun _ => ?_) | refine c_split_i rfl rfl (fun _ => ?_) (fun _ => ?_) | refine c_split_j rfl rfl (fun _ => ?_) (fun _ => ?_) | refine c_split_s rfl rfl (fun _ => ?_) (fun _ => ?_) | refine c_split_n rfl rfl (fun _ => ?_) (fun _ => ?_)) <;> try (first | (rename_i hz; exact Bool.noConfusion (show true = false from hz)) | (rename_i hz; exact Bool.noConfusion (show false = true from hz)) | (exfalso; omega)))
    | refine r_val rfl rfl (by (first | omega | exact Nat.le_of_ble_eq_true rfl | (simp only [wrap_u8, IntKind.wrap_i64, IntKind.wrap_i32, wrap_u32', wrap_u64', InI]; (repeat' refine And.intro ?_ ?_) <;> omega) | ((repeat' refine And.intro ?_ ?_) <;> first | omega | rfl | exact Nat.le_refl _ | exact Nat.le_of_ble_eq_true rfl | exact bytesF_one _) | (simp_all; done) | (simp_all; omega))) ?_ | refine r_gval rfl rfl rfl rfl (by (first | omega | exact Nat.le_of_ble_eq_true rfl | (simp only [wrap_u8, IntKind.wrap_i64, IntKind.wrap_i32, wrap_u32', wrap_u64', InI]; (repeat' refine And.intro ?_ ?_) <;> omega) | ((repeat' refine And.intro ?_ ?_) <;> first | omega | rfl | exact Nat.le_refl _ | exact Nat.le_of_ble_eq_true rfl | exact bytesF_one _) | (simp_all; done) | (simp_all; omega))) ?_
    | refine r_obj rfl rfl (by (first | omega | exact Nat.le_of_ble_eq_true rfl | (simp only [wrap_u8, IntKind.wrap_i64, IntKind.wrap_i32, wrap_u32', wrap_u64', InI]; (repeat' refine And.intro ?_ ?_) <;> omega) | ((repeat' refine And.intro ?_ ?_) <;> first | omega | rfl | exact Nat.le_refl _ | exact Nat.le_of_ble_eq_true rfl | exact bytesF_one _) | (simp_all; done) | (simp_all; omega))) ?_ | refine r_sto rfl (by (first | omega | exact Nat.le_of_ble_eq_true rfl | (simp only [wrap_u8, IntKind.wrap_i64, IntKind.wrap_i32, wrap_u32', wrap_u64', InI]; (repeat' refine And.intro ?_ ?_) <;> omega) | ((repeat' refine And.intro ?_ ?_) <;> first | omega | rfl | exact Nat.le_refl _ | exact Nat.le_of_ble_eq_true rfl | exact bytesF_one _) | (simp_all; done) | (simp_all; omega))) ?_ | refine r_gobj rfl rfl rfl rfl (by (first | omega | exact Nat.le_of_ble_eq_true rfl | (simp only [wrap_u8, IntKind.wrap_i64, IntKind.wrap_i32, wrap_u32', wrap_u64', InI]; (repeat' refine And.intro ?_ ?_) <;> omega) | ((repeat' refine And.intro ?_ ?_) <;> first | omega | rfl | exact Nat.le_refl _ | exact Nat.le_of_ble_eq_true rfl | exact bytesF_one _) | (simp_all; done) | (simp_all; omega))) ?_
    | refine e_hit rfl ?_ | refine e_miss rfl ?_
    | refine ⟨by kernel_rfl, ?_⟩ | refine x_end rfl ?_ | ((with_reducible refine c_grd ?_); (fail_if_success (refine c_lit true rfl rfl rfl ?_)); (fail_if_success (refine c_lit false rfl rfl rfl ?_)); refine c_split rfl rfl (fun _ => ?_) (fun _ => ?_)))
  all_goals first | rfl | (rw [IntKind.wrap_i64]; exact congrArg (D.i .i64) (by omega))

theorem live_a : bitsV false [49] 0 = 4607182418800017408 := by decide +kernel
theorem live_b : bitsV false [49] (-1) = 4591870180066957722 := by decide +kernel
theorem live_right (e : Int) (h1 : -1000 ≤ e) (h2 : e ≤ 1000) : RightP false [49] e := by
  rw [right_cons (by simp)]
  refine ⟨fun i hi => ?_, by simp, by decide, by decide, h1, h2⟩
  have : i = 0 := by simpa using hi
  subst this
  decide
theorem live_oa : ¬ overB (numV [49] 0) (denV 0) := by unfold overB; decide +kernel
theorem live_ob : ¬ overB (numV [49] (-1)) (denV (-1)) := by unfold overB; decide +kernel

theorem live_ctr : Ctr Tryd.prog 12 [] (.b true) := by
  have c1 := bits_ok false [49] 0 (live_right 0 (by omega) (by omega)) live_oa
  have c2 := bits_ok false [49] (-1) (live_right (-1) (by omega) (by omega)) live_ob
  rw [live_a] at c1
  rw [live_b] at c2
  refine r_fun Tryd.func12 rfl Tryd.ntmps12 Tryd.results12 rfl rfl fun X hL hX => ?_
  repeat' (first
    | with_reducible refine t_seq ?_ | with_reducible refine t_region ?_ | with_reducible refine c_nil ?_ | with_reducible refine n_then ?_
    | with_reducible refine t_ret ?_ | with_reducible refine t_skip ?_ | with_reducible refine t_exit ?_ | with_reducible refine t_block ?_
    | with_reducible refine n_block ?_ | with_reducible refine e_then ?_ | with_reducible refine x_then ?_ | with_reducible refine x_block ?_ | with_reducible refine t_draw ?_
    | refine r_val rfl rfl True.intro ?_ | refine r_gskip rfl rfl rfl ?_ | refine r_gskip2 rfl rfl rfl ?_ | refine r_gval rfl rfl rfl rfl True.intro ?_
    | refine t_true rfl ?_ | refine t_false rfl ?_
    | ((first | refine t_cond_d rfl (fun _ => ?_) (fun _ => ?_) | refine t_cond_i rfl (fun _ => ?_) (fun _ => ?_) | refine t_cond_j rfl (fun _ => ?_) (fun _ => ?_) | refine t_cond_s rfl (fun _ => ?_) (fun _ => ?_) | refine t_cond_n rfl (fun _ => ?_) (fun _ => ?_) | refine t_cond rfl (fun _ => ?_) (fun _ => ?_) | refine c_split_d rfl rfl (fun _ => ?_) (fun _ => ?_) | refine c_split_i rfl rfl (fun _ => ?_) (fun _ => ?_) | refine c_split_j rfl rfl (fun _ => ?_) (fun _ => ?_) | refine c_split_s rfl rfl (fun _ => ?_) (fun _ => ?_) | refine c_split_n rfl rfl (fun _ => ?_) (fun _ => ?_)) <;> try (first | (rename_i hz; exact Bool.noConfusion (show true = false from hz)) | (rename_i hz; exact Bool.noConfusion (show false = true from hz)) | (exfalso; omega)))
    | refine r_val rfl rfl (by (first | omega | exact Nat.le_of_ble_eq_true rfl | (simp only [wrap_u8, IntKind.wrap_i64, IntKind.wrap_i32, wrap_u32', wrap_u64', InI]; (repeat' refine And.intro ?_ ?_) <;> omega) | ((repeat' refine And.intro ?_ ?_) <;> first | omega | rfl | exact Nat.le_refl _ | exact Nat.le_of_ble_eq_true rfl | exact bytesF_one _) | (simp_all; done) | (simp_all; omega))) ?_ | refine r_gval rfl rfl rfl rfl (by (first | omega | exact Nat.le_of_ble_eq_true rfl | (simp only [wrap_u8, IntKind.wrap_i64, IntKind.wrap_i32, wrap_u32', wrap_u64', InI]; (repeat' refine And.intro ?_ ?_) <;> omega) | ((repeat' refine And.intro ?_ ?_) <;> first | omega | rfl | exact Nat.le_refl _ | exact Nat.le_of_ble_eq_true rfl | exact bytesF_one _) | (simp_all; done) | (simp_all; omega))) ?_
    | refine r_obj rfl rfl (by (first | omega | exact Nat.le_of_ble_eq_true rfl | (simp only [wrap_u8, IntKind.wrap_i64, IntKind.wrap_i32, wrap_u32', wrap_u64', InI]; (repeat' refine And.intro ?_ ?_) <;> omega) | ((repeat' refine And.intro ?_ ?_) <;> first | omega | rfl | exact Nat.le_refl _ | exact Nat.le_of_ble_eq_true rfl | exact bytesF_one _) | (simp_all; done) | (simp_all; omega))) ?_ | refine r_sto rfl (by (first | omega | exact Nat.le_of_ble_eq_true rfl | (simp only [wrap_u8, IntKind.wrap_i64, IntKind.wrap_i32, wrap_u32', wrap_u64', InI]; (repeat' refine And.intro ?_ ?_) <;> omega) | ((repeat' refine And.intro ?_ ?_) <;> first | omega | rfl | exact Nat.le_refl _ | exact Nat.le_of_ble_eq_true rfl | exact bytesF_one _) | (simp_all; done) | (simp_all; omega))) ?_ | refine r_gobj rfl rfl rfl rfl (by (first | omega | exact Nat.le_of_ble_eq_true rfl | (simp only [wrap_u8, IntKind.wrap_i64, IntKind.wrap_i32, wrap_u32', wrap_u64', InI]; (repeat' refine And.intro ?_ ?_) <;> omega) | ((repeat' refine And.intro ?_ ?_) <;> first | omega | rfl | exact Nat.le_refl _ | exact Nat.le_of_ble_eq_true rfl | exact bytesF_one _) | (simp_all; done) | (simp_all; omega))) ?_
    | refine e_hit rfl ?_ | refine e_miss rfl ?_
    | refine ⟨by kernel_rfl, ?_⟩ | refine x_end rfl ?_ | refine r_call (f := 13) rfl rfl Tryd.call13 rfl c1 ?_ | refine r_call (f := 13) rfl rfl Tryd.call13 rfl c2 ?_ | refine r_gcall (f := 15) rfl rfl rfl rfl Tryd.call15 rfl (code_ctr 0) ?_ | ((with_reducible refine c_grd ?_); (fail_if_success (refine c_lit true rfl rfl rfl ?_)); (fail_if_success (refine c_lit false rfl rfl rfl ?_)); refine c_split rfl rfl (fun _ => ?_) (fun _ => ?_)))
  all_goals rfl

end Go.Proofs.YteidmimpkipcfaaDoor.Flow
