/- The texts F7, F8, F9, DO, D6, D1, one behind the other. -/
import Derived.Test.YteidmimpkipcfaaGreatDoorK6
import Derived.Lib.Bytealg
import Derived.Lib.Small
import Derived.Lib.TrimByte
/- FLOAT: the program: a decimal as one number by another; a fraction held against a number. -/
namespace Go.Proofs.YteidmimpkipcfaaGreatDoor.Flow
open Go

theorem at_dig {s : List UInt8} (h : digs s) (i : Nat) (hi : i < s.length) : (s.getD i 0).toNat = (at' s i).toNat ∧ 48 ≤ (s.getD i 0).toNat ∧ (s.getD i 0).toNat ≤ 57 := by
  have h1 := h i hi
  have e : at' s i = ((s.getD i 0).toNat : Int) := by simp [at']
  rw [e] at h1 ⊢
  refine ⟨?_, ?_, ?_⟩ <;> omega

set_option maxHeartbeats 1000000 in
theorem ratio_ctr (neg : Bool) (s : List UInt8) (e : Int) (h : RightP neg s e) : Ctr Tryz.prog 47 [dcD neg s e] (.tu [slW .u32 (ratN 4294967296 s e), slW .u32 (ratD 4294967296 e)]) := by
  obtain ⟨hs, he1, he2, hd⟩ := h.bounds
  refine r_fun Tryz.func47 rfl Tryz.ntmps47 Tryz.results47 rfl rfl fun X hL hX => ?_
  repeat' (first
    | with_reducible refine t_seq ?_ | with_reducible refine t_region ?_ | with_reducible refine c_nil ?_ | with_reducible refine n_then ?_
    | with_reducible refine t_ret ?_ | with_reducible refine t_skip ?_ | with_reducible refine t_exit ?_ | with_reducible refine t_block ?_
    | with_reducible refine n_block ?_ | with_reducible refine e_then ?_ | with_reducible refine x_then ?_ | with_reducible refine x_block ?_ | with_reducible refine t_draw ?_
    | refine r_val rfl rfl True.intro ?_ | refine r_gskip rfl rfl rfl ?_ | refine r_gskip2 rfl rfl rfl ?_ | refine r_gval rfl rfl rfl rfl True.intro ?_
    | refine t_true rfl ?_ | refine t_false rfl ?_
    | ((first | refine t_cond_d rfl (fun _ => ?_) (fun _ => ?_) | refine t_cond_i rfl (fun _ => ?_) (fun _ => ?_) | refine t_cond_j rfl (fun _ => ?_) (fun _ => ?_) | refine t_cond_s rfl (fun _ => ?_) (fun _ => ?_) | refine t_cond_n rfl (fun _ => ?_) (fun _ => ?_) | refine t_cond rfl (fun _ => ?_) (fun _ => ?_) | refine c_split_d rfl rfl (fun _ => ?_) (fun _ => ?_) | refine c_split_i rfl rfl (fun _ => ?_) (fun _ => ?_) | refine c_split_j rfl rfl (fun _ => ?_) (fun _ => ?_) | refine c_split_s rfl rfl (fun _ => ?_) (fun _ => ?_) | refine c_split_n rfl rfl (fun _ => ?_) (fun _ => ?_)) <;> try (first | contradiction | (exfalso; omega)))
    | refine r_val rfl rfl (by (first | omega | exact Nat.le_of_ble_eq_true rfl | (simp only [wrap_u8, IntKind.wrap_i64, IntKind.wrap_i32, wrap_u32', wrap_u64', InI]; (repeat' refine And.intro ?_ ?_) <;> omega) | ((repeat' refine And.intro ?_ ?_) <;> first | omega | rfl | exact Nat.le_refl _ | exact Nat.le_of_ble_eq_true rfl | exact bytesF_one _) | (simp_all; done) | (simp_all; omega))) ?_ | refine r_gval rfl rfl rfl rfl (by (first | omega | exact Nat.le_of_ble_eq_true rfl | (simp only [wrap_u8, IntKind.wrap_i64, IntKind.wrap_i32, wrap_u32', wrap_u64', InI]; (repeat' refine And.intro ?_ ?_) <;> omega) | ((repeat' refine And.intro ?_ ?_) <;> first | omega | rfl | exact Nat.le_refl _ | exact Nat.le_of_ble_eq_true rfl | exact bytesF_one _) | (simp_all; done) | (simp_all; omega))) ?_
    | refine r_obj rfl rfl (by (first | omega | exact Nat.le_of_ble_eq_true rfl | (simp only [wrap_u8, IntKind.wrap_i64, IntKind.wrap_i32, wrap_u32', wrap_u64', InI]; (repeat' refine And.intro ?_ ?_) <;> omega) | ((repeat' refine And.intro ?_ ?_) <;> first | omega | rfl | exact Nat.le_refl _ | exact Nat.le_of_ble_eq_true rfl | exact bytesF_one _) | (simp_all; done) | (simp_all; omega))) ?_ | refine r_sto rfl (by (first | omega | exact Nat.le_of_ble_eq_true rfl | (simp only [wrap_u8, IntKind.wrap_i64, IntKind.wrap_i32, wrap_u32', wrap_u64', InI]; (repeat' refine And.intro ?_ ?_) <;> omega) | ((repeat' refine And.intro ?_ ?_) <;> first | omega | rfl | exact Nat.le_refl _ | exact Nat.le_of_ble_eq_true rfl | exact bytesF_one _) | (simp_all; done) | (simp_all; omega))) ?_ | refine r_gobj rfl rfl rfl rfl (by (first | omega | exact Nat.le_of_ble_eq_true rfl | (simp only [wrap_u8, IntKind.wrap_i64, IntKind.wrap_i32, wrap_u32', wrap_u64', InI]; (repeat' refine And.intro ?_ ?_) <;> omega) | ((repeat' refine And.intro ?_ ?_) <;> first | omega | rfl | exact Nat.le_refl _ | exact Nat.le_of_ble_eq_true rfl | exact bytesF_one _) | (simp_all; done) | (simp_all; omega))) ?_
    | refine e_hit rfl ?_ | refine e_miss rfl ?_
    | refine ⟨by kernel_rfl, ?_⟩ | refine x_end rfl ?_ | ((with_reducible refine c_grd ?_); (fail_if_success (refine c_lit true rfl rfl rfl ?_)); (fail_if_success (refine c_lit false rfl rfl rfl ?_)); refine c_split rfl rfl (fun _ => ?_) (fun _ => ?_)))
  refine T.weakF 2 (slW .u32 []) (.nil 1 _) ?_
  refine T.loop hL (fun i : Nat => [(1, .pv 1 0), (2, slW .u32 (dgW 4294967296 (s.take i))), (7, .i .i64 s.length), (8, .i .i64 i)]) (fun _ => [(1, .var [.b neg, .s s, .i .i64 e])]) (fun i => i ≤ s.length) (fun i => s.length - i) 0
    (Nat.zero_le _) ⟨⟨rfl, rfl, rfl, rfl, trivial⟩, ⟨rfl, trivial⟩, rfl, by rw [hX]; intro k hk; cases hk⟩ ?_
  intro i g1
  have hw := dgW_ok (B := 4294967296) (by omega) i (s.take i) (by simp; omega)
  have hr := at_range s i
  have c1 := mulAdd_ctr (dgW 4294967296 (s.take i)) 10 ((s.getD i 0).toNat - 48) hw.2.1 (by omega) (by have := (s.getD i 0).toNat_lt; omega) (by omega)
  have e1 : i < s.length → IntKind.u32.wrap (IntKind.u8.wrap (at' s i - 48)) = (((s.getD i 0).toNat - 48 : Nat) : Int) := fun hi => by
    obtain ⟨k1, k2, k3⟩ := at_dig hd i hi
    rw [wrap_u8, wrap_u32']
    omega
  repeat' (first
    | with_reducible refine t_seq ?_ | with_reducible refine t_region ?_ | with_reducible refine c_nil ?_ | with_reducible refine n_then ?_
    | with_reducible refine t_ret ?_ | with_reducible refine t_skip ?_ | with_reducible refine t_exit ?_ | with_reducible refine t_block ?_
    | with_reducible refine n_block ?_ | with_reducible refine e_then ?_ | with_reducible refine x_then ?_ | with_reducible refine x_block ?_ | with_reducible refine t_draw ?_
    | refine r_val rfl rfl True.intro ?_ | refine r_gskip rfl rfl rfl ?_ | refine r_gskip2 rfl rfl rfl ?_ | refine r_gval rfl rfl rfl rfl True.intro ?_
    | refine t_true rfl ?_ | refine t_false rfl ?_
    | ((first | refine t_cond_d rfl (fun _ => ?_) (fun _ => ?_) | refine t_cond_i rfl (fun _ => ?_) (fun _ => ?_) | refine t_cond_j rfl (fun _ => ?_) (fun _ => ?_) | refine t_cond_s rfl (fun _ => ?_) (fun _ => ?_) | refine t_cond_n rfl (fun _ => ?_) (fun _ => ?_) | refine t_cond rfl (fun _ => ?_) (fun _ => ?_) | refine c_split_d rfl rfl (fun _ => ?_) (fun _ => ?_) | refine c_split_i rfl rfl (fun _ => ?_) (fun _ => ?_) | refine c_split_j rfl rfl (fun _ => ?_) (fun _ => ?_) | refine c_split_s rfl rfl (fun _ => ?_) (fun _ => ?_) | refine c_split_n rfl rfl (fun _ => ?_) (fun _ => ?_)) <;> try (first | contradiction | (exfalso; omega)))
    | refine r_val rfl rfl (by (first | omega | exact Nat.le_of_ble_eq_true rfl | (simp only [wrap_u8, IntKind.wrap_i64, IntKind.wrap_i32, wrap_u32', wrap_u64', InI]; (repeat' refine And.intro ?_ ?_) <;> omega) | ((repeat' refine And.intro ?_ ?_) <;> first | omega | rfl | exact Nat.le_refl _ | exact Nat.le_of_ble_eq_true rfl | exact bytesF_one _) | (simp_all; done) | (simp_all; omega))) ?_ | refine r_gval rfl rfl rfl rfl (by (first | omega | exact Nat.le_of_ble_eq_true rfl | (simp only [wrap_u8, IntKind.wrap_i64, IntKind.wrap_i32, wrap_u32', wrap_u64', InI]; (repeat' refine And.intro ?_ ?_) <;> omega) | ((repeat' refine And.intro ?_ ?_) <;> first | omega | rfl | exact Nat.le_refl _ | exact Nat.le_of_ble_eq_true rfl | exact bytesF_one _) | (simp_all; done) | (simp_all; omega))) ?_
    | refine r_obj rfl rfl (by (first | omega | exact Nat.le_of_ble_eq_true rfl | (simp only [wrap_u8, IntKind.wrap_i64, IntKind.wrap_i32, wrap_u32', wrap_u64', InI]; (repeat' refine And.intro ?_ ?_) <;> omega) | ((repeat' refine And.intro ?_ ?_) <;> first | omega | rfl | exact Nat.le_refl _ | exact Nat.le_of_ble_eq_true rfl | exact bytesF_one _) | (simp_all; done) | (simp_all; omega))) ?_ | refine r_sto rfl (by (first | omega | exact Nat.le_of_ble_eq_true rfl | (simp only [wrap_u8, IntKind.wrap_i64, IntKind.wrap_i32, wrap_u32', wrap_u64', InI]; (repeat' refine And.intro ?_ ?_) <;> omega) | ((repeat' refine And.intro ?_ ?_) <;> first | omega | rfl | exact Nat.le_refl _ | exact Nat.le_of_ble_eq_true rfl | exact bytesF_one _) | (simp_all; done) | (simp_all; omega))) ?_ | refine r_gobj rfl rfl rfl rfl (by (first | omega | exact Nat.le_of_ble_eq_true rfl | (simp only [wrap_u8, IntKind.wrap_i64, IntKind.wrap_i32, wrap_u32', wrap_u64', InI]; (repeat' refine And.intro ?_ ?_) <;> omega) | ((repeat' refine And.intro ?_ ?_) <;> first | omega | rfl | exact Nat.le_refl _ | exact Nat.le_of_ble_eq_true rfl | exact bytesF_one _) | (simp_all; done) | (simp_all; omega))) ?_
    | refine e_hit rfl ?_ | refine e_miss rfl ?_
    | refine ⟨by kernel_rfl, ?_⟩ | refine x_end rfl ?_ | refine r_call (f := 70) rfl rfl Tryz.call70 rfl (by rw [e1 (by omega)]; exact c1) ?_ | ((with_reducible refine c_grd ?_); (fail_if_success (refine c_lit true rfl rfl rfl ?_)); (fail_if_success (refine c_lit false rfl rfl rfl ?_)); refine c_split rfl rfl (fun _ => ?_) (fun _ => ?_)))
  · have hi : i < s.length := by omega
    refine ⟨i + 1, by omega, by omega, ⟨rfl, ?_, rfl, rfl, trivial⟩, ⟨rfl, trivial⟩, rfl, by rw [hX]; intro k hk; cases hk⟩
    rw [take_snoc s i hi, dgW_snoc]
    rfl
  have hi : i = s.length := by omega
  subst hi
  simp only [List.take_length] at hw c1 ⊢
  refine T.shutF 3 _ rfl ?_
  refine T.weakF 3 (slW .u32 [1]) (slW_weak .u32 [1] 1 _ rfl fun i hi => by rw [show i = 0 by omega]; rfl) ?_
  refine T.loop hL (fun k : Nat => [(1, .pv 1 0), (2, slW .u32 (mulN 4294967296 k (dgW 4294967296 s))), (3, slW .u32 [1]), (23, .i .i64 (max e 0)), (24, .i .i64 k)]) (fun _ => [(1, .var [.b neg, .s s, .i .i64 e])]) (fun k => k ≤ e.toNat) (fun k => e.toNat - k) 0
    (Nat.zero_le _) ⟨⟨rfl, rfl, rfl, rfl, rfl, trivial⟩, ⟨rfl, trivial⟩, rfl, by rw [hX]; intro k hk; cases hk⟩ ?_
  intro k g2
  have hm := mulN_ok (B := 4294967296) (by omega) k _ hw.2.1
  have c2 := mulAdd_ctr (mulN 4294967296 k (dgW 4294967296 s)) 10 0 hm.2.1 (by omega) (by omega) (by omega)
  repeat' (first
    | with_reducible refine t_seq ?_ | with_reducible refine t_region ?_ | with_reducible refine c_nil ?_ | with_reducible refine n_then ?_
    | with_reducible refine t_ret ?_ | with_reducible refine t_skip ?_ | with_reducible refine t_exit ?_ | with_reducible refine t_block ?_
    | with_reducible refine n_block ?_ | with_reducible refine e_then ?_ | with_reducible refine x_then ?_ | with_reducible refine x_block ?_ | with_reducible refine t_draw ?_
    | refine r_val rfl rfl True.intro ?_ | refine r_gskip rfl rfl rfl ?_ | refine r_gskip2 rfl rfl rfl ?_ | refine r_gval rfl rfl rfl rfl True.intro ?_
    | refine t_true rfl ?_ | refine t_false rfl ?_
    | ((first | refine t_cond_d rfl (fun _ => ?_) (fun _ => ?_) | refine t_cond_i rfl (fun _ => ?_) (fun _ => ?_) | refine t_cond_j rfl (fun _ => ?_) (fun _ => ?_) | refine t_cond_s rfl (fun _ => ?_) (fun _ => ?_) | refine t_cond_n rfl (fun _ => ?_) (fun _ => ?_) | refine t_cond rfl (fun _ => ?_) (fun _ => ?_) | refine c_split_d rfl rfl (fun _ => ?_) (fun _ => ?_) | refine c_split_i rfl rfl (fun _ => ?_) (fun _ => ?_) | refine c_split_j rfl rfl (fun _ => ?_) (fun _ => ?_) | refine c_split_s rfl rfl (fun _ => ?_) (fun _ => ?_) | refine c_split_n rfl rfl (fun _ => ?_) (fun _ => ?_)) <;> try (first | contradiction | (exfalso; omega)))
    | refine r_val rfl rfl (by (first | omega | exact Nat.le_of_ble_eq_true rfl | (simp only [wrap_u8, IntKind.wrap_i64, IntKind.wrap_i32, wrap_u32', wrap_u64', InI]; (repeat' refine And.intro ?_ ?_) <;> omega) | ((repeat' refine And.intro ?_ ?_) <;> first | omega | rfl | exact Nat.le_refl _ | exact Nat.le_of_ble_eq_true rfl | exact bytesF_one _) | (simp_all; done) | (simp_all; omega))) ?_ | refine r_gval rfl rfl rfl rfl (by (first | omega | exact Nat.le_of_ble_eq_true rfl | (simp only [wrap_u8, IntKind.wrap_i64, IntKind.wrap_i32, wrap_u32', wrap_u64', InI]; (repeat' refine And.intro ?_ ?_) <;> omega) | ((repeat' refine And.intro ?_ ?_) <;> first | omega | rfl | exact Nat.le_refl _ | exact Nat.le_of_ble_eq_true rfl | exact bytesF_one _) | (simp_all; done) | (simp_all; omega))) ?_
    | refine r_obj rfl rfl (by (first | omega | exact Nat.le_of_ble_eq_true rfl | (simp only [wrap_u8, IntKind.wrap_i64, IntKind.wrap_i32, wrap_u32', wrap_u64', InI]; (repeat' refine And.intro ?_ ?_) <;> omega) | ((repeat' refine And.intro ?_ ?_) <;> first | omega | rfl | exact Nat.le_refl _ | exact Nat.le_of_ble_eq_true rfl | exact bytesF_one _) | (simp_all; done) | (simp_all; omega))) ?_ | refine r_sto rfl (by (first | omega | exact Nat.le_of_ble_eq_true rfl | (simp only [wrap_u8, IntKind.wrap_i64, IntKind.wrap_i32, wrap_u32', wrap_u64', InI]; (repeat' refine And.intro ?_ ?_) <;> omega) | ((repeat' refine And.intro ?_ ?_) <;> first | omega | rfl | exact Nat.le_refl _ | exact Nat.le_of_ble_eq_true rfl | exact bytesF_one _) | (simp_all; done) | (simp_all; omega))) ?_ | refine r_gobj rfl rfl rfl rfl (by (first | omega | exact Nat.le_of_ble_eq_true rfl | (simp only [wrap_u8, IntKind.wrap_i64, IntKind.wrap_i32, wrap_u32', wrap_u64', InI]; (repeat' refine And.intro ?_ ?_) <;> omega) | ((repeat' refine And.intro ?_ ?_) <;> first | omega | rfl | exact Nat.le_refl _ | exact Nat.le_of_ble_eq_true rfl | exact bytesF_one _) | (simp_all; done) | (simp_all; omega))) ?_
    | refine e_hit rfl ?_ | refine e_miss rfl ?_
    | refine ⟨by kernel_rfl, ?_⟩ | refine x_end rfl ?_ | refine r_call (f := 70) rfl rfl Tryz.call70 rfl c2 ?_ | ((with_reducible refine c_grd ?_); (fail_if_success (refine c_lit true rfl rfl rfl ?_)); (fail_if_success (refine c_lit false rfl rfl rfl ?_)); refine c_split rfl rfl (fun _ => ?_) (fun _ => ?_)))
  · exact ⟨k + 1, by omega, by omega, ⟨rfl, rfl, rfl, rfl, rfl, trivial⟩, ⟨rfl, trivial⟩, rfl, by rw [hX]; intro k hk; cases hk⟩
  have hk : k = e.toNat := by omega
  subst hk
  refine T.loop hL (fun k : Nat => [(1, .pv 1 0), (2, slW .u32 (ratN 4294967296 s e)), (3, slW .u32 (mulN 4294967296 k [1])), (32, .i .i64 (max (-e) 0)), (33, .i .i64 k)]) (fun _ => [(1, .var [.b neg, .s s, .i .i64 e])]) (fun k => k ≤ (-e).toNat) (fun k => (-e).toNat - k) 0
    (Nat.zero_le _) ⟨⟨rfl, rfl, rfl, rfl, rfl, trivial⟩, ⟨rfl, trivial⟩, rfl, by rw [hX]; intro k hk; cases hk⟩ ?_
  intro k g2
  have hm := mulN_ok (B := 4294967296) (by omega) k [1] (wsm_cons.2 ⟨by omega, wsm_nil _⟩)
  have c2 := mulAdd_ctr (mulN 4294967296 k [1]) 10 0 hm.2.1 (by omega) (by omega) (by have := hm.2.2.2; simp at this; omega)
  repeat' (first
    | with_reducible refine t_seq ?_ | with_reducible refine t_region ?_ | with_reducible refine c_nil ?_ | with_reducible refine n_then ?_
    | with_reducible refine t_ret ?_ | with_reducible refine t_skip ?_ | with_reducible refine t_exit ?_ | with_reducible refine t_block ?_
    | with_reducible refine n_block ?_ | with_reducible refine e_then ?_ | with_reducible refine x_then ?_ | with_reducible refine x_block ?_ | with_reducible refine t_draw ?_
    | refine r_val rfl rfl True.intro ?_ | refine r_gskip rfl rfl rfl ?_ | refine r_gskip2 rfl rfl rfl ?_ | refine r_gval rfl rfl rfl rfl True.intro ?_
    | refine t_true rfl ?_ | refine t_false rfl ?_
    | ((first | refine t_cond_d rfl (fun _ => ?_) (fun _ => ?_) | refine t_cond_i rfl (fun _ => ?_) (fun _ => ?_) | refine t_cond_j rfl (fun _ => ?_) (fun _ => ?_) | refine t_cond_s rfl (fun _ => ?_) (fun _ => ?_) | refine t_cond_n rfl (fun _ => ?_) (fun _ => ?_) | refine t_cond rfl (fun _ => ?_) (fun _ => ?_) | refine c_split_d rfl rfl (fun _ => ?_) (fun _ => ?_) | refine c_split_i rfl rfl (fun _ => ?_) (fun _ => ?_) | refine c_split_j rfl rfl (fun _ => ?_) (fun _ => ?_) | refine c_split_s rfl rfl (fun _ => ?_) (fun _ => ?_) | refine c_split_n rfl rfl (fun _ => ?_) (fun _ => ?_)) <;> try (first | contradiction | (exfalso; omega)))
    | refine r_val rfl rfl (by (first | omega | exact Nat.le_of_ble_eq_true rfl | (simp only [wrap_u8, IntKind.wrap_i64, IntKind.wrap_i32, wrap_u32', wrap_u64', InI]; (repeat' refine And.intro ?_ ?_) <;> omega) | ((repeat' refine And.intro ?_ ?_) <;> first | omega | rfl | exact Nat.le_refl _ | exact Nat.le_of_ble_eq_true rfl | exact bytesF_one _) | (simp_all; done) | (simp_all; omega))) ?_ | refine r_gval rfl rfl rfl rfl (by (first | omega | exact Nat.le_of_ble_eq_true rfl | (simp only [wrap_u8, IntKind.wrap_i64, IntKind.wrap_i32, wrap_u32', wrap_u64', InI]; (repeat' refine And.intro ?_ ?_) <;> omega) | ((repeat' refine And.intro ?_ ?_) <;> first | omega | rfl | exact Nat.le_refl _ | exact Nat.le_of_ble_eq_true rfl | exact bytesF_one _) | (simp_all; done) | (simp_all; omega))) ?_
    | refine r_obj rfl rfl (by (first | omega | exact Nat.le_of_ble_eq_true rfl | (simp only [wrap_u8, IntKind.wrap_i64, IntKind.wrap_i32, wrap_u32', wrap_u64', InI]; (repeat' refine And.intro ?_ ?_) <;> omega) | ((repeat' refine And.intro ?_ ?_) <;> first | omega | rfl | exact Nat.le_refl _ | exact Nat.le_of_ble_eq_true rfl | exact bytesF_one _) | (simp_all; done) | (simp_all; omega))) ?_ | refine r_sto rfl (by (first | omega | exact Nat.le_of_ble_eq_true rfl | (simp only [wrap_u8, IntKind.wrap_i64, IntKind.wrap_i32, wrap_u32', wrap_u64', InI]; (repeat' refine And.intro ?_ ?_) <;> omega) | ((repeat' refine And.intro ?_ ?_) <;> first | omega | rfl | exact Nat.le_refl _ | exact Nat.le_of_ble_eq_true rfl | exact bytesF_one _) | (simp_all; done) | (simp_all; omega))) ?_ | refine r_gobj rfl rfl rfl rfl (by (first | omega | exact Nat.le_of_ble_eq_true rfl | (simp only [wrap_u8, IntKind.wrap_i64, IntKind.wrap_i32, wrap_u32', wrap_u64', InI]; (repeat' refine And.intro ?_ ?_) <;> omega) | ((repeat' refine And.intro ?_ ?_) <;> first | omega | rfl | exact Nat.le_refl _ | exact Nat.le_of_ble_eq_true rfl | exact bytesF_one _) | (simp_all; done) | (simp_all; omega))) ?_
    | refine e_hit rfl ?_ | refine e_miss rfl ?_
    | refine ⟨by kernel_rfl, ?_⟩ | refine x_end rfl ?_ | refine r_call (f := 70) rfl rfl Tryz.call70 rfl c2 ?_ | ((with_reducible refine c_grd ?_); (fail_if_success (refine c_lit true rfl rfl rfl ?_)); (fail_if_success (refine c_lit false rfl rfl rfl ?_)); refine c_split rfl rfl (fun _ => ?_) (fun _ => ?_)))
  · exact ⟨k + 1, by omega, by omega, ⟨rfl, rfl, rfl, rfl, rfl, trivial⟩, ⟨rfl, trivial⟩, rfl, by rw [hX]; intro k hk; cases hk⟩
  have hk : k = (-e).toNat := by omega
  subst hk
  rfl

theorem against_ctr (a b : List Nat) (m : Nat) (e : Int) (ha : wsm 4294967296 a) (hb : wsm 4294967296 b) (na : nrm a) (hm : m < 18446744073709551616) (la : a.length ≤ 10000) (lb : b.length ≤ 10000) (h1 : -4096 ≤ e) (h2 : e ≤ 4096) :
    Ctr Tryz.prog 48 [slW .u32 a, slW .u32 b, .i .u64 m, .i .i64 e] (.i .i64 (cmpQ (val 4294967296 a) (val 4294967296 b) m e)) := by
  obtain ⟨m1, m2, m3, m4⟩ := mulW_ok b m hb hm
  have c1 := mul_ctr b m hb hm (by omega)
  obtain ⟨p1, p2, p3, p4⟩ := shG_ok (mulW b m) e.toNat m3
  have q1 := shift_ctr (mulW b m) e.toNat m3 (by omega) (by omega)
  have r1 := cmp_ctr a (shG (mulW b m) e.toNat) ha p3 na (p2 m2) (by omega) (by omega)
  obtain ⟨s1, s2, s3, s4⟩ := shG_ok a (-e).toNat ha
  have q2 := shift_ctr a (-e).toNat ha (by omega) (by omega)
  have r2 := cmp_ctr (shG a (-e).toNat) (mulW b m) s3 m3 (s2 na) m2 (by omega) (by omega)
  refine r_fun Tryz.func48 rfl Tryz.ntmps48 Tryz.results48 rfl rfl fun X hL hX => ?_
  repeat' (first
    | with_reducible refine t_seq ?_ | with_reducible refine t_region ?_ | with_reducible refine c_nil ?_ | with_reducible refine n_then ?_
    | with_reducible refine t_ret ?_ | with_reducible refine t_skip ?_ | with_reducible refine t_exit ?_ | with_reducible refine t_block ?_
    | with_reducible refine n_block ?_ | with_reducible refine e_then ?_ | with_reducible refine x_then ?_ | with_reducible refine x_block ?_ | with_reducible refine t_draw ?_
    | refine r_val rfl rfl True.intro ?_ | refine r_gskip rfl rfl rfl ?_ | refine r_gskip2 rfl rfl rfl ?_ | refine r_gval rfl rfl rfl rfl True.intro ?_
    | refine t_true rfl ?_ | refine t_false rfl ?_
    | ((first | refine t_cond_d rfl (fun _ => ?_) (fun _ => ?_) | refine t_cond_i rfl (fun _ => ?_) (fun _ => ?_) | refine t_cond_j rfl (fun _ => ?_) (fun _ => ?_) | refine t_cond_s rfl (fun _ => ?_) (fun _ => ?_) | refine t_cond_n rfl (fun _ => ?_) (fun _ => ?_) | refine t_cond rfl (fun _ => ?_) (fun _ => ?_) | refine c_split_d rfl rfl (fun _ => ?_) (fun _ => ?_) | refine c_split_i rfl rfl (fun _ => ?_) (fun _ => ?_) | refine c_split_j rfl rfl (fun _ => ?_) (fun _ => ?_) | refine c_split_s rfl rfl (fun _ => ?_) (fun _ => ?_) | refine c_split_n rfl rfl (fun _ => ?_) (fun _ => ?_)) <;> try (first | contradiction | (exfalso; omega)))
    | refine r_val rfl rfl (by (first | omega | exact Nat.le_of_ble_eq_true rfl | (simp only [wrap_u8, IntKind.wrap_i64, IntKind.wrap_i32, wrap_u32', wrap_u64', InI]; (repeat' refine And.intro ?_ ?_) <;> omega) | ((repeat' refine And.intro ?_ ?_) <;> first | omega | rfl | exact Nat.le_refl _ | exact Nat.le_of_ble_eq_true rfl | exact bytesF_one _) | (simp_all; done) | (simp_all; omega))) ?_ | refine r_gval rfl rfl rfl rfl (by (first | omega | exact Nat.le_of_ble_eq_true rfl | (simp only [wrap_u8, IntKind.wrap_i64, IntKind.wrap_i32, wrap_u32', wrap_u64', InI]; (repeat' refine And.intro ?_ ?_) <;> omega) | ((repeat' refine And.intro ?_ ?_) <;> first | omega | rfl | exact Nat.le_refl _ | exact Nat.le_of_ble_eq_true rfl | exact bytesF_one _) | (simp_all; done) | (simp_all; omega))) ?_
    | refine r_obj rfl rfl (by (first | omega | exact Nat.le_of_ble_eq_true rfl | (simp only [wrap_u8, IntKind.wrap_i64, IntKind.wrap_i32, wrap_u32', wrap_u64', InI]; (repeat' refine And.intro ?_ ?_) <;> omega) | ((repeat' refine And.intro ?_ ?_) <;> first | omega | rfl | exact Nat.le_refl _ | exact Nat.le_of_ble_eq_true rfl | exact bytesF_one _) | (simp_all; done) | (simp_all; omega))) ?_ | refine r_sto rfl (by (first | omega | exact Nat.le_of_ble_eq_true rfl | (simp only [wrap_u8, IntKind.wrap_i64, IntKind.wrap_i32, wrap_u32', wrap_u64', InI]; (repeat' refine And.intro ?_ ?_) <;> omega) | ((repeat' refine And.intro ?_ ?_) <;> first | omega | rfl | exact Nat.le_refl _ | exact Nat.le_of_ble_eq_true rfl | exact bytesF_one _) | (simp_all; done) | (simp_all; omega))) ?_ | refine r_gobj rfl rfl rfl rfl (by (first | omega | exact Nat.le_of_ble_eq_true rfl | (simp only [wrap_u8, IntKind.wrap_i64, IntKind.wrap_i32, wrap_u32', wrap_u64', InI]; (repeat' refine And.intro ?_ ?_) <;> omega) | ((repeat' refine And.intro ?_ ?_) <;> first | omega | rfl | exact Nat.le_refl _ | exact Nat.le_of_ble_eq_true rfl | exact bytesF_one _) | (simp_all; done) | (simp_all; omega))) ?_
    | refine e_hit rfl ?_ | refine e_miss rfl ?_
    | refine ⟨by kernel_rfl, ?_⟩ | refine x_end rfl ?_ | refine r_call (f := 71) rfl rfl Tryz.call71 rfl c1 ?_ | refine r_call (f := 73) rfl rfl Tryz.call73 rfl (by rw [show e = ((e.toNat : Nat) : Int) by omega]; exact q1) ?_ | refine r_call (f := 73) rfl rfl Tryz.call73 rfl (by rw [show -e = (((-e).toNat : Nat) : Int) by omega]; exact q2) ?_ | refine r_call (f := 72) rfl rfl Tryz.call72 rfl r1 ?_ | refine r_call (f := 72) rfl rfl Tryz.call72 rfl r2 ?_ | ((with_reducible refine c_grd ?_); (fail_if_success (refine c_lit true rfl rfl rfl ?_)); (fail_if_success (refine c_lit false rfl rfl rfl ?_)); refine c_split rfl rfl (fun _ => ?_) (fun _ => ?_)))
  · unfold cmpQ
    rw [if_pos ‹_›, p1, m1]
  · unfold cmpQ
    rw [if_neg ‹_›, s1, m1]

end Go.Proofs.YteidmimpkipcfaaGreatDoor.Flow

/- FLOAT: the program: parts of bits; the greatest number that is no greater. -/
namespace Go.Proofs.YteidmimpkipcfaaGreatDoor.Flow
open Go

theorem wraps_u64 (n : Int) (h₀ : 0 ≤ n) (h₁ : n < 2 ^ 64) : IntKind.u64.wrap n = n := by rw [wrap_u64']; omega
theorem bits_or_comm (k : IntKind) (x y : Int) : bits .or k x y = bits .or k y x := by simp [bits, BitVec.or_comm]

/-- The parts of any bits. -/
def xP (b : Nat) : Nat := b / 4503599627370496 % 2048
def partsD (b : Nat) : D := if xP b = 2047 then .tu [.b false, .i .u64 0, .i .i64 0, .b false] else .tu [.b (decide (9223372036854775808 ≤ b)), .i .u64 (mB (b % 9223372036854775808)), .i .i64 (eB (b % 9223372036854775808)), .b true]

theorem xP_eq (b : Nat) : xB (b % 9223372036854775808) = xP b := by unfold xB xP; omega

theorem parts_ctr (b : Nat) (hb : b < 18446744073709551616) : Ctr Tryz.prog 30 [.i .u64 b] (partsD b) := by
  have e52 : (2 : Int) ^ Int.toNat 52 = 4503599627370496 := by decide
  have e63 : (2 : Int) ^ Int.toNat 63 = 9223372036854775808 := by decide
  have k1 : IntKind.i64.wrap (bits .and .u64 ((b : Int) / 2 ^ Int.toNat 52) 2047) = ((xP b : Nat) : Int) := by
    have := bits_mask .u64 64 (by decide) wraps_u64 11 (by decide) ((b : Int) / 2 ^ Int.toNat 52) (by rw [e52]; omega) (by rw [e52]; omega)
    rw [show (2047 : Int) = 2 ^ 11 - 1 by decide, this, e52, IntKind.wrap_i64]
    unfold xP
    omega
  have k2 : bits .and .u64 (b : Int) 4503599627370495 = ((b % 4503599627370496 : Nat) : Int) := by
    have := bits_mask .u64 64 (by decide) wraps_u64 52 (by decide) (b : Int) (by omega) (by omega)
    rw [show (4503599627370495 : Int) = 2 ^ 52 - 1 by decide, this]
    omega
  have k3 : bits .or .u64 ((b % 4503599627370496 : Nat) : Int) 4503599627370496 = ((b % 4503599627370496 + 4503599627370496 : Nat) : Int) := by
    rw [bits_or_comm, bits_join .u64 64 (by decide) wraps_u64 52 _ _ (by omega) (by decide) (by decide) (by omega) (by omega) (by omega)]
    omega
  have k4 : ((b : Int) / 2 ^ Int.toNat 63 == 1) = decide (9223372036854775808 ≤ b) := by
    rw [e63, Bool.eq_iff_iff]
    simp
    omega
  have hx : xP b < 2048 := by unfold xP; omega
  have hfr : (partsD b).free = true := by unfold partsD; split <;> rfl
  refine r_fun Tryz.func30 rfl Tryz.ntmps30 Tryz.results30 rfl hfr fun X hL hX => ?_
  repeat' (first
    | with_reducible refine t_seq ?_ | with_reducible refine t_region ?_ | with_reducible refine c_nil ?_ | with_reducible refine n_then ?_
    | with_reducible refine t_ret ?_ | with_reducible refine t_skip ?_ | with_reducible refine t_exit ?_ | with_reducible refine t_block ?_
    | with_reducible refine n_block ?_ | with_reducible refine e_then ?_ | with_reducible refine x_then ?_ | with_reducible refine x_block ?_ | with_reducible refine t_draw ?_
    | refine r_val rfl rfl True.intro ?_ | refine r_gskip rfl rfl rfl ?_ | refine r_gskip2 rfl rfl rfl ?_ | refine r_gval rfl rfl rfl rfl True.intro ?_
    | refine t_true rfl ?_ | refine t_false rfl ?_
    | ((first | refine t_cond_d rfl (fun _ => ?_) (fun _ => ?_) | refine t_cond_i rfl (fun _ => ?_) (fun _ => ?_) | refine t_cond_j rfl (fun _ => ?_) (fun _ => ?_) | refine t_cond_s rfl (fun _ => ?_) (fun _ => ?_) | refine t_cond_n rfl (fun _ => ?_) (fun _ => ?_) | refine t_cond rfl (fun _ => ?_) (fun _ => ?_) | refine c_split_d rfl rfl (fun _ => ?_) (fun _ => ?_) | refine c_split_i rfl rfl (fun _ => ?_) (fun _ => ?_) | refine c_split_j rfl rfl (fun _ => ?_) (fun _ => ?_) | refine c_split_s rfl rfl (fun _ => ?_) (fun _ => ?_) | refine c_split_n rfl rfl (fun _ => ?_) (fun _ => ?_)) <;> try (first | contradiction | (exfalso; omega)))
    | refine r_val rfl rfl (by (first | omega | exact Nat.le_of_ble_eq_true rfl | (simp only [wrap_u8, IntKind.wrap_i64, IntKind.wrap_i32, wrap_u32', wrap_u64', InI]; (repeat' refine And.intro ?_ ?_) <;> omega) | ((repeat' refine And.intro ?_ ?_) <;> first | omega | rfl | exact Nat.le_refl _ | exact Nat.le_of_ble_eq_true rfl | exact bytesF_one _) | (simp_all; done) | (simp_all; omega))) ?_ | refine r_gval rfl rfl rfl rfl (by (first | omega | exact Nat.le_of_ble_eq_true rfl | (simp only [wrap_u8, IntKind.wrap_i64, IntKind.wrap_i32, wrap_u32', wrap_u64', InI]; (repeat' refine And.intro ?_ ?_) <;> omega) | ((repeat' refine And.intro ?_ ?_) <;> first | omega | rfl | exact Nat.le_refl _ | exact Nat.le_of_ble_eq_true rfl | exact bytesF_one _) | (simp_all; done) | (simp_all; omega))) ?_
    | refine r_obj rfl rfl (by (first | omega | exact Nat.le_of_ble_eq_true rfl | (simp only [wrap_u8, IntKind.wrap_i64, IntKind.wrap_i32, wrap_u32', wrap_u64', InI]; (repeat' refine And.intro ?_ ?_) <;> omega) | ((repeat' refine And.intro ?_ ?_) <;> first | omega | rfl | exact Nat.le_refl _ | exact Nat.le_of_ble_eq_true rfl | exact bytesF_one _) | (simp_all; done) | (simp_all; omega))) ?_ | refine r_sto rfl (by (first | omega | exact Nat.le_of_ble_eq_true rfl | (simp only [wrap_u8, IntKind.wrap_i64, IntKind.wrap_i32, wrap_u32', wrap_u64', InI]; (repeat' refine And.intro ?_ ?_) <;> omega) | ((repeat' refine And.intro ?_ ?_) <;> first | omega | rfl | exact Nat.le_refl _ | exact Nat.le_of_ble_eq_true rfl | exact bytesF_one _) | (simp_all; done) | (simp_all; omega))) ?_ | refine r_gobj rfl rfl rfl rfl (by (first | omega | exact Nat.le_of_ble_eq_true rfl | (simp only [wrap_u8, IntKind.wrap_i64, IntKind.wrap_i32, wrap_u32', wrap_u64', InI]; (repeat' refine And.intro ?_ ?_) <;> omega) | ((repeat' refine And.intro ?_ ?_) <;> first | omega | rfl | exact Nat.le_refl _ | exact Nat.le_of_ble_eq_true rfl | exact bytesF_one _) | (simp_all; done) | (simp_all; omega))) ?_
    | refine e_hit rfl ?_ | refine e_miss rfl ?_
    | refine ⟨by kernel_rfl, ?_⟩ | refine x_end rfl ?_ | ((with_reducible refine c_grd ?_); (fail_if_success (refine c_lit true rfl rfl rfl ?_)); (fail_if_success (refine c_lit false rfl rfl rfl ?_)); refine c_split rfl rfl (fun _ => ?_) (fun _ => ?_)))
  · rename_i h
    rw [k1] at h
    unfold partsD
    rw [if_pos (by omega)]
  · rename_i h h2
    rw [k1] at h h2
    unfold partsD
    rw [if_neg (by omega), k2, k4]
    unfold mB eB
    rw [xP_eq, if_pos (by omega), if_pos (by omega), show b % 9223372036854775808 % 4503599627370496 = b % 4503599627370496 by omega]
  · rename_i h h2
    rw [k1] at h h2
    unfold partsD
    rw [if_neg (by omega), k1, k2, k3, k4]
    unfold mB eB
    rw [xP_eq, if_neg (by omega), if_neg (by omega), show b % 9223372036854775808 % 4503599627370496 = b % 4503599627370496 by omega]

theorem rparts_ctr (b : Nat) (hb : b < 18446744073709551616) : Ctr Tryz.prog 34 [.i .u64 b] (partsD b) := by
  have k1 : IntKind.i64.wrap ((b : Int) / 4503599627370496 % 2048) = ((xP b : Nat) : Int) := by
    rw [IntKind.wrap_i64]
    unfold xP
    omega
  have k4 : (decide ((9223372036854775808 : Int) ≤ b)) = decide (9223372036854775808 ≤ b) := by
    rw [Bool.eq_iff_iff]
    simp
    omega
  have hx : xP b < 2048 := by unfold xP; omega
  have hfr : (partsD b).free = true := by unfold partsD; split <;> rfl
  refine r_fun Tryz.func34 rfl Tryz.ntmps34 Tryz.results34 rfl hfr fun X hL hX => ?_
  repeat' (first
    | with_reducible refine t_seq ?_ | with_reducible refine t_region ?_ | with_reducible refine c_nil ?_ | with_reducible refine n_then ?_
    | with_reducible refine t_ret ?_ | with_reducible refine t_skip ?_ | with_reducible refine t_exit ?_ | with_reducible refine t_block ?_
    | with_reducible refine n_block ?_ | with_reducible refine e_then ?_ | with_reducible refine x_then ?_ | with_reducible refine x_block ?_ | with_reducible refine t_draw ?_
    | refine r_val rfl rfl True.intro ?_ | refine r_gskip rfl rfl rfl ?_ | refine r_gskip2 rfl rfl rfl ?_ | refine r_gval rfl rfl rfl rfl True.intro ?_
    | refine t_true rfl ?_ | refine t_false rfl ?_
    | ((first | refine t_cond_d rfl (fun _ => ?_) (fun _ => ?_) | refine t_cond_i rfl (fun _ => ?_) (fun _ => ?_) | refine t_cond_j rfl (fun _ => ?_) (fun _ => ?_) | refine t_cond_s rfl (fun _ => ?_) (fun _ => ?_) | refine t_cond_n rfl (fun _ => ?_) (fun _ => ?_) | refine t_cond rfl (fun _ => ?_) (fun _ => ?_) | refine c_split_d rfl rfl (fun _ => ?_) (fun _ => ?_) | refine c_split_i rfl rfl (fun _ => ?_) (fun _ => ?_) | refine c_split_j rfl rfl (fun _ => ?_) (fun _ => ?_) | refine c_split_s rfl rfl (fun _ => ?_) (fun _ => ?_) | refine c_split_n rfl rfl (fun _ => ?_) (fun _ => ?_)) <;> try (first | contradiction | (exfalso; omega)))
    | refine r_val rfl rfl (by (first | omega | exact Nat.le_of_ble_eq_true rfl | (simp only [wrap_u8, IntKind.wrap_i64, IntKind.wrap_i32, wrap_u32', wrap_u64', InI]; (repeat' refine And.intro ?_ ?_) <;> omega) | ((repeat' refine And.intro ?_ ?_) <;> first | omega | rfl | exact Nat.le_refl _ | exact Nat.le_of_ble_eq_true rfl | exact bytesF_one _) | (simp_all; done) | (simp_all; omega))) ?_ | refine r_gval rfl rfl rfl rfl (by (first | omega | exact Nat.le_of_ble_eq_true rfl | (simp only [wrap_u8, IntKind.wrap_i64, IntKind.wrap_i32, wrap_u32', wrap_u64', InI]; (repeat' refine And.intro ?_ ?_) <;> omega) | ((repeat' refine And.intro ?_ ?_) <;> first | omega | rfl | exact Nat.le_refl _ | exact Nat.le_of_ble_eq_true rfl | exact bytesF_one _) | (simp_all; done) | (simp_all; omega))) ?_
    | refine r_obj rfl rfl (by (first | omega | exact Nat.le_of_ble_eq_true rfl | (simp only [wrap_u8, IntKind.wrap_i64, IntKind.wrap_i32, wrap_u32', wrap_u64', InI]; (repeat' refine And.intro ?_ ?_) <;> omega) | ((repeat' refine And.intro ?_ ?_) <;> first | omega | rfl | exact Nat.le_refl _ | exact Nat.le_of_ble_eq_true rfl | exact bytesF_one _) | (simp_all; done) | (simp_all; omega))) ?_ | refine r_sto rfl (by (first | omega | exact Nat.le_of_ble_eq_true rfl | (simp only [wrap_u8, IntKind.wrap_i64, IntKind.wrap_i32, wrap_u32', wrap_u64', InI]; (repeat' refine And.intro ?_ ?_) <;> omega) | ((repeat' refine And.intro ?_ ?_) <;> first | omega | rfl | exact Nat.le_refl _ | exact Nat.le_of_ble_eq_true rfl | exact bytesF_one _) | (simp_all; done) | (simp_all; omega))) ?_ | refine r_gobj rfl rfl rfl rfl (by (first | omega | exact Nat.le_of_ble_eq_true rfl | (simp only [wrap_u8, IntKind.wrap_i64, IntKind.wrap_i32, wrap_u32', wrap_u64', InI]; (repeat' refine And.intro ?_ ?_) <;> omega) | ((repeat' refine And.intro ?_ ?_) <;> first | omega | rfl | exact Nat.le_refl _ | exact Nat.le_of_ble_eq_true rfl | exact bytesF_one _) | (simp_all; done) | (simp_all; omega))) ?_
    | refine e_hit rfl ?_ | refine e_miss rfl ?_
    | refine ⟨by kernel_rfl, ?_⟩ | refine x_end rfl ?_ | ((with_reducible refine c_grd ?_); (fail_if_success (refine c_lit true rfl rfl rfl ?_)); (fail_if_success (refine c_lit false rfl rfl rfl ?_)); refine c_split rfl rfl (fun _ => ?_) (fun _ => ?_)))
  · rename_i h
    rw [k1] at h
    unfold partsD
    rw [if_pos (by omega)]
  · skip
    rename_i h h2
    rw [k1] at h h2
    unfold partsD
    rw [if_neg (by omega), k4]
    unfold mB eB
    rw [xP_eq, if_pos (by omega), if_pos (by omega), show b % 9223372036854775808 % 4503599627370496 = b % 4503599627370496 by omega]
    rfl
  · rename_i h h2
    rw [k1] at h h2
    unfold partsD
    rw [if_neg (by omega), k1, k4]
    unfold mB eB
    rw [xP_eq, if_neg (by omega), if_neg (by omega), show b % 9223372036854775808 % 4503599627370496 = b % 4503599627370496 by omega]
    rw [wrap_u64', show ((b : Int) % 4503599627370496 + 4503599627370496) % 18446744073709551616 = ((b % 4503599627370496 + 4503599627370496 : Nat) : Int) by omega]

theorem mB_lt (b : Nat) : mB b < 9007199254740992 := by unfold mB; split <;> omega
theorem eB_lt (b : Nat) (h : xB b < 2048) : eB b ≤ 972 := by unfold eB; split <;> omega

theorem partsD_none {c : Nat} (hc : c < 9223372036854775808) (h : ¬ xB c < 2047) : partsD c = .tu [.b false, .i .u64 0, .i .i64 0, .b false] := by
  unfold partsD
  rw [if_pos (by rw [← xP_eq, Nat.mod_eq_of_lt hc]; unfold xB at h ⊢; omega)]
theorem partsD_some {c : Nat} (hc : c < 9223372036854775808) (h : xB c < 2047) : partsD c = .tu [.b false, .i .u64 (mB c), .i .i64 (eB c), .b true] := by
  unfold partsD
  rw [if_neg (by rw [← xP_eq, Nat.mod_eq_of_lt hc]; omega), Nat.mod_eq_of_lt hc, show decide (9223372036854775808 ≤ c) = false by simp; omega]

theorem floor_ctr (a b : List Nat) (ha : wsm 4294967296 a) (hb : wsm 4294967296 b) (na : nrm a) (la : a.length ≤ 10000) (lb : b.length ≤ 10000) :
    Ctr Tryz.prog 49 [slW .u32 a, slW .u32 b] (.i .u64 (flB (val 4294967296 a) (val 4294967296 b))) := by
  refine r_fun Tryz.func49 rfl Tryz.ntmps49 Tryz.results49 rfl rfl fun X hL hX => ?_
  repeat' (first
    | with_reducible refine t_seq ?_ | with_reducible refine t_region ?_ | with_reducible refine c_nil ?_ | with_reducible refine n_then ?_
    | with_reducible refine t_ret ?_ | with_reducible refine t_skip ?_ | with_reducible refine t_exit ?_ | with_reducible refine t_block ?_
    | with_reducible refine n_block ?_ | with_reducible refine e_then ?_ | with_reducible refine x_then ?_ | with_reducible refine x_block ?_ | with_reducible refine t_draw ?_
    | refine r_val rfl rfl True.intro ?_ | refine r_gskip rfl rfl rfl ?_ | refine r_gskip2 rfl rfl rfl ?_ | refine r_gval rfl rfl rfl rfl True.intro ?_
    | refine t_true rfl ?_ | refine t_false rfl ?_
    | ((first | refine t_cond_d rfl (fun _ => ?_) (fun _ => ?_) | refine t_cond_i rfl (fun _ => ?_) (fun _ => ?_) | refine t_cond_j rfl (fun _ => ?_) (fun _ => ?_) | refine t_cond_s rfl (fun _ => ?_) (fun _ => ?_) | refine t_cond_n rfl (fun _ => ?_) (fun _ => ?_) | refine t_cond rfl (fun _ => ?_) (fun _ => ?_) | refine c_split_d rfl rfl (fun _ => ?_) (fun _ => ?_) | refine c_split_i rfl rfl (fun _ => ?_) (fun _ => ?_) | refine c_split_j rfl rfl (fun _ => ?_) (fun _ => ?_) | refine c_split_s rfl rfl (fun _ => ?_) (fun _ => ?_) | refine c_split_n rfl rfl (fun _ => ?_) (fun _ => ?_)) <;> try (first | contradiction | (exfalso; omega)))
    | refine r_val rfl rfl (by (first | omega | exact Nat.le_of_ble_eq_true rfl | (simp only [wrap_u8, IntKind.wrap_i64, IntKind.wrap_i32, wrap_u32', wrap_u64', InI]; (repeat' refine And.intro ?_ ?_) <;> omega) | ((repeat' refine And.intro ?_ ?_) <;> first | omega | rfl | exact Nat.le_refl _ | exact Nat.le_of_ble_eq_true rfl | exact bytesF_one _) | (simp_all; done) | (simp_all; omega))) ?_ | refine r_gval rfl rfl rfl rfl (by (first | omega | exact Nat.le_of_ble_eq_true rfl | (simp only [wrap_u8, IntKind.wrap_i64, IntKind.wrap_i32, wrap_u32', wrap_u64', InI]; (repeat' refine And.intro ?_ ?_) <;> omega) | ((repeat' refine And.intro ?_ ?_) <;> first | omega | rfl | exact Nat.le_refl _ | exact Nat.le_of_ble_eq_true rfl | exact bytesF_one _) | (simp_all; done) | (simp_all; omega))) ?_
    | refine r_obj rfl rfl (by (first | omega | exact Nat.le_of_ble_eq_true rfl | (simp only [wrap_u8, IntKind.wrap_i64, IntKind.wrap_i32, wrap_u32', wrap_u64', InI]; (repeat' refine And.intro ?_ ?_) <;> omega) | ((repeat' refine And.intro ?_ ?_) <;> first | omega | rfl | exact Nat.le_refl _ | exact Nat.le_of_ble_eq_true rfl | exact bytesF_one _) | (simp_all; done) | (simp_all; omega))) ?_ | refine r_sto rfl (by (first | omega | exact Nat.le_of_ble_eq_true rfl | (simp only [wrap_u8, IntKind.wrap_i64, IntKind.wrap_i32, wrap_u32', wrap_u64', InI]; (repeat' refine And.intro ?_ ?_) <;> omega) | ((repeat' refine And.intro ?_ ?_) <;> first | omega | rfl | exact Nat.le_refl _ | exact Nat.le_of_ble_eq_true rfl | exact bytesF_one _) | (simp_all; done) | (simp_all; omega))) ?_ | refine r_gobj rfl rfl rfl rfl (by (first | omega | exact Nat.le_of_ble_eq_true rfl | (simp only [wrap_u8, IntKind.wrap_i64, IntKind.wrap_i32, wrap_u32', wrap_u64', InI]; (repeat' refine And.intro ?_ ?_) <;> omega) | ((repeat' refine And.intro ?_ ?_) <;> first | omega | rfl | exact Nat.le_refl _ | exact Nat.le_of_ble_eq_true rfl | exact bytesF_one _) | (simp_all; done) | (simp_all; omega))) ?_
    | refine e_hit rfl ?_ | refine e_miss rfl ?_
    | refine ⟨by kernel_rfl, ?_⟩ | refine x_end rfl ?_ | ((with_reducible refine c_grd ?_); (fail_if_success (refine c_lit true rfl rfl rfl ?_)); (fail_if_success (refine c_lit false rfl rfl rfl ?_)); refine c_split rfl rfl (fun _ => ?_) (fun _ => ?_)))
  refine T.loop hL (fun x : Nat × Nat => [(0, slW .u32 a), (1, slW .u32 b), (5, .i .u64 x.2), (12, .i .i64 x.1)]) (fun _ => []) (fun x => x.1 ≤ 63 ∧ x.2 % 2 ^ (63 - x.1) = 0 ∧ x.2 < 9223372036854775808 ∧ floorG (pB (val 4294967296 a) (val 4294967296 b)) (63 - x.1) x.2 = flB (val 4294967296 a) (val 4294967296 b)) (fun x => 63 - x.1) (0, 0)
    ⟨Nat.zero_le _, rfl, by decide, rfl⟩ ⟨⟨rfl, rfl, rfl, rfl, trivial⟩, trivial, rfl, by rw [hX]; intro k hk; cases hk⟩ ?_
  rintro ⟨i, f⟩ ⟨g1, g2, g3, g4⟩
  dsimp only at g1 g2 g3 g4 ⊢
  generalize hN : val 4294967296 a = N at *
  generalize hD : val 4294967296 b = D' at *
  by_cases hi : i < 63
  · obtain ⟨k, hk⟩ : ∃ k, 63 - i = k + 1 := ⟨62 - i, by omega⟩
    have hk1 : 63 - (i + 1) = k := by omega
    rw [hk] at g2 g4
    have hpk : 2 ^ (k + 1) ≤ 2 ^ 63 := Nat.pow_le_pow_right (by omega) (by omega)
    have hp2 : (2 : Nat) ^ (k + 1) = 2 * 2 ^ k := by rw [Nat.pow_succ]; omega
    have hp0 : 0 < 2 ^ k := Nat.two_pow_pos k
    have hsum : f + 2 ^ (k + 1) ≤ 2 ^ 63 := by
      have hd : 2 ^ (k + 1) ∣ f := Nat.dvd_of_mod_eq_zero g2
      have hd2 : 2 ^ (k + 1) ∣ 2 ^ 63 := Nat.pow_dvd_pow 2 (by omega)
      obtain ⟨u, hu⟩ := hd
      obtain ⟨v, hv⟩ := hd2
      have huv : u < v := by
        refine Nat.lt_of_mul_lt_mul_left (a := 2 ^ (k + 1)) ?_
        rw [← hu, ← hv]
        exact g3
      rw [hu, hv]
      calc 2 ^ (k + 1) * u + 2 ^ (k + 1) = 2 ^ (k + 1) * (u + 1) := by grind
        _ ≤ 2 ^ (k + 1) * v := Nat.mul_le_mul_left _ huv
    have hc : bits .or .u64 (f : Int) (IntKind.u64.wrap (1 * 2 ^ ((62 : Int) - i).toNat)) = ((f + 2 ^ k : Nat) : Int) := by
      have e1 : ((62 : Int) - i).toNat = k := by omega
      have e2 : (2 : Int) ^ k = ((2 ^ k : Nat) : Int) := (Int.natCast_pow 2 k).symm
      have e3 : (2 : Int) ^ (k + 1) = ((2 ^ (k + 1) : Nat) : Int) := (Int.natCast_pow 2 (k + 1)).symm
      rw [e1, Int.one_mul, e2, wrap_u64', show (((2 ^ k : Nat) : Int)) % 18446744073709551616 = ((2 ^ k : Nat) : Int) by omega,
        bits_join .u64 64 (by decide) wraps_u64 (k + 1) _ _ (by omega) (by rw [e3]; omega) (by omega) (by omega) (by rw [e3]; omega) (by omega)]
      omega
    have hc63 : f + 2 ^ k < 9223372036854775808 := by omega
    have c1 := parts_ctr (f + 2 ^ k) (by omega)
    have step : floorG (pB N D') k (if pB N D' (f + 2 ^ k) = true then f + 2 ^ k else f) = flB N D' := g4
    have hmod1 : (f + 2 ^ k) % 2 ^ k = 0 := by
      have : f % 2 ^ k = 0 := Nat.mod_eq_zero_of_dvd (Nat.dvd_trans (Nat.pow_dvd_pow 2 (by omega)) (Nat.dvd_of_mod_eq_zero g2))
      rw [Nat.add_mod, this]
      simp
    have hmod2 : f % 2 ^ k = 0 := Nat.mod_eq_zero_of_dvd (Nat.dvd_trans (Nat.pow_dvd_pow 2 (by omega)) (Nat.dvd_of_mod_eq_zero g2))
    by_cases hx : xB (f + 2 ^ k) < 2047
    · rw [partsD_some hc63 hx] at c1
      have hm := mB_lt (f + 2 ^ k)
      have he1 := e_ge (f + 2 ^ k)
      have he2 := eB_lt (f + 2 ^ k) (by omega)
      have c2 := against_ctr a b (mB (f + 2 ^ k)) (eB (f + 2 ^ k)) ha hb na (by omega) la lb (by omega) (by omega)
      rw [hN, hD] at c2
      have hpB : pB N D' (f + 2 ^ k) = decide (0 ≤ cmpQ N D' (mB (f + 2 ^ k)) (eB (f + 2 ^ k))) := by
        unfold pB
        rw [decide_eq_true hx, Bool.true_and]
      rw [hpB] at step
      repeat' (first
        | with_reducible refine t_seq ?_ | with_reducible refine t_region ?_ | with_reducible refine c_nil ?_ | with_reducible refine n_then ?_
        | with_reducible refine t_ret ?_ | with_reducible refine t_skip ?_ | with_reducible refine t_exit ?_ | with_reducible refine t_block ?_
        | with_reducible refine n_block ?_ | with_reducible refine e_then ?_ | with_reducible refine x_then ?_ | with_reducible refine x_block ?_ | with_reducible refine t_draw ?_
        | refine r_val rfl rfl True.intro ?_ | refine r_gskip rfl rfl rfl ?_ | refine r_gskip2 rfl rfl rfl ?_ | refine r_gval rfl rfl rfl rfl True.intro ?_
        | refine t_true rfl ?_ | refine t_false rfl ?_
        | ((first | refine t_cond_d rfl (fun _ => ?_) (fun _ => ?_) | refine t_cond_i rfl (fun _ => ?_) (fun _ => ?_) | refine t_cond_j rfl (fun _ => ?_) (fun _ => ?_) | refine t_cond_s rfl (fun _ => ?_) (fun _ => ?_) | refine t_cond_n rfl (fun _ => ?_) (fun _ => ?_) | refine t_cond rfl (fun _ => ?_) (fun _ => ?_) | refine c_split_d rfl rfl (fun _ => ?_) (fun _ => ?_) | refine c_split_i rfl rfl (fun _ => ?_) (fun _ => ?_) | refine c_split_j rfl rfl (fun _ => ?_) (fun _ => ?_) | refine c_split_s rfl rfl (fun _ => ?_) (fun _ => ?_) | refine c_split_n rfl rfl (fun _ => ?_) (fun _ => ?_)) <;> try (first | contradiction | (exfalso; omega)))
        | refine r_val rfl rfl (by (first | omega | exact Nat.le_of_ble_eq_true rfl | (simp only [wrap_u8, IntKind.wrap_i64, IntKind.wrap_i32, wrap_u32', wrap_u64', InI]; (repeat' refine And.intro ?_ ?_) <;> omega) | ((repeat' refine And.intro ?_ ?_) <;> first | omega | rfl | exact Nat.le_refl _ | exact Nat.le_of_ble_eq_true rfl | exact bytesF_one _) | (simp_all; done) | (simp_all; omega))) ?_ | refine r_gval rfl rfl rfl rfl (by (first | omega | exact Nat.le_of_ble_eq_true rfl | (simp only [wrap_u8, IntKind.wrap_i64, IntKind.wrap_i32, wrap_u32', wrap_u64', InI]; (repeat' refine And.intro ?_ ?_) <;> omega) | ((repeat' refine And.intro ?_ ?_) <;> first | omega | rfl | exact Nat.le_refl _ | exact Nat.le_of_ble_eq_true rfl | exact bytesF_one _) | (simp_all; done) | (simp_all; omega))) ?_
        | refine r_obj rfl rfl (by (first | omega | exact Nat.le_of_ble_eq_true rfl | (simp only [wrap_u8, IntKind.wrap_i64, IntKind.wrap_i32, wrap_u32', wrap_u64', InI]; (repeat' refine And.intro ?_ ?_) <;> omega) | ((repeat' refine And.intro ?_ ?_) <;> first | omega | rfl | exact Nat.le_refl _ | exact Nat.le_of_ble_eq_true rfl | exact bytesF_one _) | (simp_all; done) | (simp_all; omega))) ?_ | refine r_sto rfl (by (first | omega | exact Nat.le_of_ble_eq_true rfl | (simp only [wrap_u8, IntKind.wrap_i64, IntKind.wrap_i32, wrap_u32', wrap_u64', InI]; (repeat' refine And.intro ?_ ?_) <;> omega) | ((repeat' refine And.intro ?_ ?_) <;> first | omega | rfl | exact Nat.le_refl _ | exact Nat.le_of_ble_eq_true rfl | exact bytesF_one _) | (simp_all; done) | (simp_all; omega))) ?_ | refine r_gobj rfl rfl rfl rfl (by (first | omega | exact Nat.le_of_ble_eq_true rfl | (simp only [wrap_u8, IntKind.wrap_i64, IntKind.wrap_i32, wrap_u32', wrap_u64', InI]; (repeat' refine And.intro ?_ ?_) <;> omega) | ((repeat' refine And.intro ?_ ?_) <;> first | omega | rfl | exact Nat.le_refl _ | exact Nat.le_of_ble_eq_true rfl | exact bytesF_one _) | (simp_all; done) | (simp_all; omega))) ?_
        | refine e_hit rfl ?_ | refine e_miss rfl ?_
        | refine ⟨by kernel_rfl, ?_⟩ | refine x_end rfl ?_ | refine r_call (f := 30) rfl rfl Tryz.call30 rfl (by rw [hc]; exact c1) ?_ | refine r_gcall (f := 48) rfl rfl rfl rfl Tryz.call48 rfl c2 ?_ | ((with_reducible refine c_grd ?_); (fail_if_success (refine c_lit true rfl rfl rfl ?_)); (fail_if_success (refine c_lit false rfl rfl rfl ?_)); refine c_split rfl rfl (fun _ => ?_) (fun _ => ?_)))
      · rename_i h1
        rw [if_pos (decide_eq_true h1)] at step
        exact ⟨(i + 1, f + 2 ^ k), ⟨hi, by dsimp only; rw [hk1]; exact hmod1, hc63, by dsimp only; rw [hk1]; exact step⟩, by dsimp only; omega, ⟨rfl, rfl, by rw [hc]; rfl, rfl, trivial⟩, trivial, rfl, by rw [hX]; intro k hk; cases hk⟩
      · rename_i h1
        rw [if_neg (by simpa using h1)] at step
        exact ⟨(i + 1, f), ⟨hi, by dsimp only; rw [hk1]; exact hmod2, g3, by dsimp only; rw [hk1]; exact step⟩, by dsimp only; omega, ⟨rfl, rfl, rfl, rfl, trivial⟩, trivial, rfl, by rw [hX]; intro k hk; cases hk⟩
    · rw [partsD_none hc63 hx] at c1
      have hpB : pB N D' (f + 2 ^ k) = false := by
        unfold pB
        rw [decide_eq_false hx, Bool.false_and]
      rw [hpB, if_neg (by decide)] at step
      repeat' (first
        | with_reducible refine t_seq ?_ | with_reducible refine t_region ?_ | with_reducible refine c_nil ?_ | with_reducible refine n_then ?_
        | with_reducible refine t_ret ?_ | with_reducible refine t_skip ?_ | with_reducible refine t_exit ?_ | with_reducible refine t_block ?_
        | with_reducible refine n_block ?_ | with_reducible refine e_then ?_ | with_reducible refine x_then ?_ | with_reducible refine x_block ?_ | with_reducible refine t_draw ?_
        | refine r_val rfl rfl True.intro ?_ | refine r_gskip rfl rfl rfl ?_ | refine r_gskip2 rfl rfl rfl ?_ | refine r_gval rfl rfl rfl rfl True.intro ?_
        | refine t_true rfl ?_ | refine t_false rfl ?_
        | ((first | refine t_cond_d rfl (fun _ => ?_) (fun _ => ?_) | refine t_cond_i rfl (fun _ => ?_) (fun _ => ?_) | refine t_cond_j rfl (fun _ => ?_) (fun _ => ?_) | refine t_cond_s rfl (fun _ => ?_) (fun _ => ?_) | refine t_cond_n rfl (fun _ => ?_) (fun _ => ?_) | refine t_cond rfl (fun _ => ?_) (fun _ => ?_) | refine c_split_d rfl rfl (fun _ => ?_) (fun _ => ?_) | refine c_split_i rfl rfl (fun _ => ?_) (fun _ => ?_) | refine c_split_j rfl rfl (fun _ => ?_) (fun _ => ?_) | refine c_split_s rfl rfl (fun _ => ?_) (fun _ => ?_) | refine c_split_n rfl rfl (fun _ => ?_) (fun _ => ?_)) <;> try (first | contradiction | (exfalso; omega)))
        | refine r_val rfl rfl (by (first | omega | exact Nat.le_of_ble_eq_true rfl | (simp only [wrap_u8, IntKind.wrap_i64, IntKind.wrap_i32, wrap_u32', wrap_u64', InI]; (repeat' refine And.intro ?_ ?_) <;> omega) | ((repeat' refine And.intro ?_ ?_) <;> first | omega | rfl | exact Nat.le_refl _ | exact Nat.le_of_ble_eq_true rfl | exact bytesF_one _) | (simp_all; done) | (simp_all; omega))) ?_ | refine r_gval rfl rfl rfl rfl (by (first | omega | exact Nat.le_of_ble_eq_true rfl | (simp only [wrap_u8, IntKind.wrap_i64, IntKind.wrap_i32, wrap_u32', wrap_u64', InI]; (repeat' refine And.intro ?_ ?_) <;> omega) | ((repeat' refine And.intro ?_ ?_) <;> first | omega | rfl | exact Nat.le_refl _ | exact Nat.le_of_ble_eq_true rfl | exact bytesF_one _) | (simp_all; done) | (simp_all; omega))) ?_
        | refine r_obj rfl rfl (by (first | omega | exact Nat.le_of_ble_eq_true rfl | (simp only [wrap_u8, IntKind.wrap_i64, IntKind.wrap_i32, wrap_u32', wrap_u64', InI]; (repeat' refine And.intro ?_ ?_) <;> omega) | ((repeat' refine And.intro ?_ ?_) <;> first | omega | rfl | exact Nat.le_refl _ | exact Nat.le_of_ble_eq_true rfl | exact bytesF_one _) | (simp_all; done) | (simp_all; omega))) ?_ | refine r_sto rfl (by (first | omega | exact Nat.le_of_ble_eq_true rfl | (simp only [wrap_u8, IntKind.wrap_i64, IntKind.wrap_i32, wrap_u32', wrap_u64', InI]; (repeat' refine And.intro ?_ ?_) <;> omega) | ((repeat' refine And.intro ?_ ?_) <;> first | omega | rfl | exact Nat.le_refl _ | exact Nat.le_of_ble_eq_true rfl | exact bytesF_one _) | (simp_all; done) | (simp_all; omega))) ?_ | refine r_gobj rfl rfl rfl rfl (by (first | omega | exact Nat.le_of_ble_eq_true rfl | (simp only [wrap_u8, IntKind.wrap_i64, IntKind.wrap_i32, wrap_u32', wrap_u64', InI]; (repeat' refine And.intro ?_ ?_) <;> omega) | ((repeat' refine And.intro ?_ ?_) <;> first | omega | rfl | exact Nat.le_refl _ | exact Nat.le_of_ble_eq_true rfl | exact bytesF_one _) | (simp_all; done) | (simp_all; omega))) ?_
        | refine e_hit rfl ?_ | refine e_miss rfl ?_
        | refine ⟨by kernel_rfl, ?_⟩ | refine x_end rfl ?_ | refine r_call (f := 30) rfl rfl Tryz.call30 rfl (by rw [hc]; exact c1) ?_ | ((with_reducible refine c_grd ?_); (fail_if_success (refine c_lit true rfl rfl rfl ?_)); (fail_if_success (refine c_lit false rfl rfl rfl ?_)); refine c_split rfl rfl (fun _ => ?_) (fun _ => ?_)))
      exact ⟨(i + 1, f), ⟨hi, by dsimp only; rw [hk1]; exact hmod2, g3, by dsimp only; rw [hk1]; exact step⟩, by dsimp only; omega, ⟨rfl, rfl, rfl, rfl, trivial⟩, trivial, rfl, by rw [hX]; intro k hk; cases hk⟩
  · have e0 : f = flB N D' := by
      rw [show 63 - i = 0 by omega] at g4
      exact g4
    repeat' (first
      | with_reducible refine t_seq ?_ | with_reducible refine t_region ?_ | with_reducible refine c_nil ?_ | with_reducible refine n_then ?_
      | with_reducible refine t_ret ?_ | with_reducible refine t_skip ?_ | with_reducible refine t_exit ?_ | with_reducible refine t_block ?_
      | with_reducible refine n_block ?_ | with_reducible refine e_then ?_ | with_reducible refine x_then ?_ | with_reducible refine x_block ?_ | with_reducible refine t_draw ?_
      | refine r_val rfl rfl True.intro ?_ | refine r_gskip rfl rfl rfl ?_ | refine r_gskip2 rfl rfl rfl ?_ | refine r_gval rfl rfl rfl rfl True.intro ?_
      | refine t_true rfl ?_ | refine t_false rfl ?_
      | ((first | refine t_cond_d rfl (fun _ => ?_) (fun _ => ?_) | refine t_cond_i rfl (fun _ => ?_) (fun _ => ?_) | refine t_cond_j rfl (fun _ => ?_) (fun _ => ?_) | refine t_cond_s rfl (fun _ => ?_) (fun _ => ?_) | refine t_cond_n rfl (fun _ => ?_) (fun _ => ?_) | refine t_cond rfl (fun _ => ?_) (fun _ => ?_) | refine c_split_d rfl rfl (fun _ => ?_) (fun _ => ?_) | refine c_split_i rfl rfl (fun _ => ?_) (fun _ => ?_) | refine c_split_j rfl rfl (fun _ => ?_) (fun _ => ?_) | refine c_split_s rfl rfl (fun _ => ?_) (fun _ => ?_) | refine c_split_n rfl rfl (fun _ => ?_) (fun _ => ?_)) <;> try (first | contradiction | (exfalso; omega)))
      | refine r_val rfl rfl (by (first | omega | exact Nat.le_of_ble_eq_true rfl | (simp only [wrap_u8, IntKind.wrap_i64, IntKind.wrap_i32, wrap_u32', wrap_u64', InI]; (repeat' refine And.intro ?_ ?_) <;> omega) | ((repeat' refine And.intro ?_ ?_) <;> first | omega | rfl | exact Nat.le_refl _ | exact Nat.le_of_ble_eq_true rfl | exact bytesF_one _) | (simp_all; done) | (simp_all; omega))) ?_ | refine r_gval rfl rfl rfl rfl (by (first | omega | exact Nat.le_of_ble_eq_true rfl | (simp only [wrap_u8, IntKind.wrap_i64, IntKind.wrap_i32, wrap_u32', wrap_u64', InI]; (repeat' refine And.intro ?_ ?_) <;> omega) | ((repeat' refine And.intro ?_ ?_) <;> first | omega | rfl | exact Nat.le_refl _ | exact Nat.le_of_ble_eq_true rfl | exact bytesF_one _) | (simp_all; done) | (simp_all; omega))) ?_
      | refine r_obj rfl rfl (by (first | omega | exact Nat.le_of_ble_eq_true rfl | (simp only [wrap_u8, IntKind.wrap_i64, IntKind.wrap_i32, wrap_u32', wrap_u64', InI]; (repeat' refine And.intro ?_ ?_) <;> omega) | ((repeat' refine And.intro ?_ ?_) <;> first | omega | rfl | exact Nat.le_refl _ | exact Nat.le_of_ble_eq_true rfl | exact bytesF_one _) | (simp_all; done) | (simp_all; omega))) ?_ | refine r_sto rfl (by (first | omega | exact Nat.le_of_ble_eq_true rfl | (simp only [wrap_u8, IntKind.wrap_i64, IntKind.wrap_i32, wrap_u32', wrap_u64', InI]; (repeat' refine And.intro ?_ ?_) <;> omega) | ((repeat' refine And.intro ?_ ?_) <;> first | omega | rfl | exact Nat.le_refl _ | exact Nat.le_of_ble_eq_true rfl | exact bytesF_one _) | (simp_all; done) | (simp_all; omega))) ?_ | refine r_gobj rfl rfl rfl rfl (by (first | omega | exact Nat.le_of_ble_eq_true rfl | (simp only [wrap_u8, IntKind.wrap_i64, IntKind.wrap_i32, wrap_u32', wrap_u64', InI]; (repeat' refine And.intro ?_ ?_) <;> omega) | ((repeat' refine And.intro ?_ ?_) <;> first | omega | rfl | exact Nat.le_refl _ | exact Nat.le_of_ble_eq_true rfl | exact bytesF_one _) | (simp_all; done) | (simp_all; omega))) ?_
      | refine e_hit rfl ?_ | refine e_miss rfl ?_
      | refine ⟨by kernel_rfl, ?_⟩ | refine x_end rfl ?_ | ((with_reducible refine c_grd ?_); (fail_if_success (refine c_lit true rfl rfl rfl ?_)); (fail_if_success (refine c_lit false rfl rfl rfl ?_)); refine c_split rfl rfl (fun _ => ?_) (fun _ => ?_)))
    rw [e0]

end Go.Proofs.YteidmimpkipcfaaGreatDoor.Flow

/- FLOAT: the program: the nearest number's bits. -/
namespace Go.Proofs.YteidmimpkipcfaaGreatDoor.Flow
open Go

def bitsV (neg : Bool) (s : List UInt8) (e : Int) : Nat := roB (numV s e) (denV e) + (if neg = true ∧ ¬ s = [] then 9223372036854775808 else 0)

theorem ten_pos (k : Nat) : 0 < 10 ^ k := Nat.pow_pos (by omega)
theorem denV_pos (e : Int) : 0 < denV e := ten_pos _

theorem bits_bad (neg : Bool) (s : List UInt8) (e : Int) (hs : s.length ≤ 1099511627776) (h : ¬ RightP neg s e) : Ctr Tryz.prog 25 [dcD neg s e] (.tu [.i .u64 0, .i .i64 1]) := by
  have c1 := right_ctr neg s e hs
  rw [rightB_not h] at c1
  refine r_fun Tryz.func25 rfl Tryz.ntmps25 Tryz.results25 rfl rfl fun X hL hX => ?_
  repeat' (first
    | with_reducible refine t_seq ?_ | with_reducible refine t_region ?_ | with_reducible refine c_nil ?_ | with_reducible refine n_then ?_
    | with_reducible refine t_ret ?_ | with_reducible refine t_skip ?_ | with_reducible refine t_exit ?_ | with_reducible refine t_block ?_
    | with_reducible refine n_block ?_ | with_reducible refine e_then ?_ | with_reducible refine x_then ?_ | with_reducible refine x_block ?_ | with_reducible refine t_draw ?_
    | refine r_val rfl rfl True.intro ?_ | refine r_gskip rfl rfl rfl ?_ | refine r_gskip2 rfl rfl rfl ?_ | refine r_gval rfl rfl rfl rfl True.intro ?_
    | refine t_true rfl ?_ | refine t_false rfl ?_
    | ((first | refine t_cond_d rfl (fun _ => ?_) (fun _ => ?_) | refine t_cond_i rfl (fun _ => ?_) (fun _ => ?_) | refine t_cond_j rfl (fun _ => ?_) (fun _ => ?_) | refine t_cond_s rfl (fun _ => ?_) (fun _ => ?_) | refine t_cond_n rfl (fun _ => ?_) (fun _ => ?_) | refine t_cond rfl (fun _ => ?_) (fun _ => ?_) | refine c_split_d rfl rfl (fun _ => ?_) (fun _ => ?_) | refine c_split_i rfl rfl (fun _ => ?_) (fun _ => ?_) | refine c_split_j rfl rfl (fun _ => ?_) (fun _ => ?_) | refine c_split_s rfl rfl (fun _ => ?_) (fun _ => ?_) | refine c_split_n rfl rfl (fun _ => ?_) (fun _ => ?_)) <;> try (first | contradiction | (exfalso; omega)))
    | refine r_val rfl rfl (by (first | omega | exact Nat.le_of_ble_eq_true rfl | (simp only [wrap_u8, IntKind.wrap_i64, IntKind.wrap_i32, wrap_u32', wrap_u64', InI]; (repeat' refine And.intro ?_ ?_) <;> omega) | ((repeat' refine And.intro ?_ ?_) <;> first | omega | rfl | exact Nat.le_refl _ | exact Nat.le_of_ble_eq_true rfl | exact bytesF_one _) | (simp_all; done) | (simp_all; omega))) ?_ | refine r_gval rfl rfl rfl rfl (by (first | omega | exact Nat.le_of_ble_eq_true rfl | (simp only [wrap_u8, IntKind.wrap_i64, IntKind.wrap_i32, wrap_u32', wrap_u64', InI]; (repeat' refine And.intro ?_ ?_) <;> omega) | ((repeat' refine And.intro ?_ ?_) <;> first | omega | rfl | exact Nat.le_refl _ | exact Nat.le_of_ble_eq_true rfl | exact bytesF_one _) | (simp_all; done) | (simp_all; omega))) ?_
    | refine r_obj rfl rfl (by (first | omega | exact Nat.le_of_ble_eq_true rfl | (simp only [wrap_u8, IntKind.wrap_i64, IntKind.wrap_i32, wrap_u32', wrap_u64', InI]; (repeat' refine And.intro ?_ ?_) <;> omega) | ((repeat' refine And.intro ?_ ?_) <;> first | omega | rfl | exact Nat.le_refl _ | exact Nat.le_of_ble_eq_true rfl | exact bytesF_one _) | (simp_all; done) | (simp_all; omega))) ?_ | refine r_sto rfl (by (first | omega | exact Nat.le_of_ble_eq_true rfl | (simp only [wrap_u8, IntKind.wrap_i64, IntKind.wrap_i32, wrap_u32', wrap_u64', InI]; (repeat' refine And.intro ?_ ?_) <;> omega) | ((repeat' refine And.intro ?_ ?_) <;> first | omega | rfl | exact Nat.le_refl _ | exact Nat.le_of_ble_eq_true rfl | exact bytesF_one _) | (simp_all; done) | (simp_all; omega))) ?_ | refine r_gobj rfl rfl rfl rfl (by (first | omega | exact Nat.le_of_ble_eq_true rfl | (simp only [wrap_u8, IntKind.wrap_i64, IntKind.wrap_i32, wrap_u32', wrap_u64', InI]; (repeat' refine And.intro ?_ ?_) <;> omega) | ((repeat' refine And.intro ?_ ?_) <;> first | omega | rfl | exact Nat.le_refl _ | exact Nat.le_of_ble_eq_true rfl | exact bytesF_one _) | (simp_all; done) | (simp_all; omega))) ?_
    | refine e_hit rfl ?_ | refine e_miss rfl ?_
    | refine ⟨by kernel_rfl, ?_⟩ | refine x_end rfl ?_ | refine r_call (f := 44) rfl rfl Tryz.call44 rfl c1 ?_ | ((with_reducible refine c_grd ?_); (fail_if_success (refine c_lit true rfl rfl rfl ?_)); (fail_if_success (refine c_lit false rfl rfl rfl ?_)); refine c_split rfl rfl (fun _ => ?_) (fun _ => ?_)))
  rfl

theorem bits_over (neg : Bool) (s : List UInt8) (e : Int) (h : RightP neg s e) (ho : overB (numV s e) (denV e)) : Ctr Tryz.prog 25 [dcD neg s e] (.tu [.i .u64 0, .i .i64 8]) := by
  obtain ⟨b1, b2, b3, b4⟩ := h.bounds
  have c1 := right_ctr neg s e (by omega)
  rw [rightB_iff.2 h] at c1
  have c2 := ratio_ctr neg s e h
  obtain ⟨n1, n2, n3, n4⟩ := ratN_ok (B := 4294967296) (by omega) s e
  obtain ⟨d1, d2, d3, d4⟩ := ratD_ok (B := 4294967296) (by omega) e
  have c3 := against_ctr (ratN 4294967296 s e) (ratD 4294967296 e) 18014398509481983 970 n2 d2 n3 (by omega) (by omega) (by omega) (by omega) (by omega)
  rw [n1, d1] at c3
  unfold overB at ho
  generalize cmpQ (numV s e) (denV e) 18014398509481983 970 = q at c3 ho
  refine r_fun Tryz.func25 rfl Tryz.ntmps25 Tryz.results25 rfl rfl fun X hL hX => ?_
  repeat' (first
    | with_reducible refine t_seq ?_ | with_reducible refine t_region ?_ | with_reducible refine c_nil ?_ | with_reducible refine n_then ?_
    | with_reducible refine t_ret ?_ | with_reducible refine t_skip ?_ | with_reducible refine t_exit ?_ | with_reducible refine t_block ?_
    | with_reducible refine n_block ?_ | with_reducible refine e_then ?_ | with_reducible refine x_then ?_ | with_reducible refine x_block ?_ | with_reducible refine t_draw ?_
    | refine r_val rfl rfl True.intro ?_ | refine r_gskip rfl rfl rfl ?_ | refine r_gskip2 rfl rfl rfl ?_ | refine r_gval rfl rfl rfl rfl True.intro ?_
    | refine t_true rfl ?_ | refine t_false rfl ?_
    | ((first | refine t_cond_d rfl (fun _ => ?_) (fun _ => ?_) | refine t_cond_i rfl (fun _ => ?_) (fun _ => ?_) | refine t_cond_j rfl (fun _ => ?_) (fun _ => ?_) | refine t_cond_s rfl (fun _ => ?_) (fun _ => ?_) | refine t_cond_n rfl (fun _ => ?_) (fun _ => ?_) | refine t_cond rfl (fun _ => ?_) (fun _ => ?_) | refine c_split_d rfl rfl (fun _ => ?_) (fun _ => ?_) | refine c_split_i rfl rfl (fun _ => ?_) (fun _ => ?_) | refine c_split_j rfl rfl (fun _ => ?_) (fun _ => ?_) | refine c_split_s rfl rfl (fun _ => ?_) (fun _ => ?_) | refine c_split_n rfl rfl (fun _ => ?_) (fun _ => ?_)) <;> try (first | contradiction | (exfalso; omega)))
    | refine r_val rfl rfl (by (first | omega | exact Nat.le_of_ble_eq_true rfl | (simp only [wrap_u8, IntKind.wrap_i64, IntKind.wrap_i32, wrap_u32', wrap_u64', InI]; (repeat' refine And.intro ?_ ?_) <;> omega) | ((repeat' refine And.intro ?_ ?_) <;> first | omega | rfl | exact Nat.le_refl _ | exact Nat.le_of_ble_eq_true rfl | exact bytesF_one _) | (simp_all; done) | (simp_all; omega))) ?_ | refine r_gval rfl rfl rfl rfl (by (first | omega | exact Nat.le_of_ble_eq_true rfl | (simp only [wrap_u8, IntKind.wrap_i64, IntKind.wrap_i32, wrap_u32', wrap_u64', InI]; (repeat' refine And.intro ?_ ?_) <;> omega) | ((repeat' refine And.intro ?_ ?_) <;> first | omega | rfl | exact Nat.le_refl _ | exact Nat.le_of_ble_eq_true rfl | exact bytesF_one _) | (simp_all; done) | (simp_all; omega))) ?_
    | refine r_obj rfl rfl (by (first | omega | exact Nat.le_of_ble_eq_true rfl | (simp only [wrap_u8, IntKind.wrap_i64, IntKind.wrap_i32, wrap_u32', wrap_u64', InI]; (repeat' refine And.intro ?_ ?_) <;> omega) | ((repeat' refine And.intro ?_ ?_) <;> first | omega | rfl | exact Nat.le_refl _ | exact Nat.le_of_ble_eq_true rfl | exact bytesF_one _) | (simp_all; done) | (simp_all; omega))) ?_ | refine r_sto rfl (by (first | omega | exact Nat.le_of_ble_eq_true rfl | (simp only [wrap_u8, IntKind.wrap_i64, IntKind.wrap_i32, wrap_u32', wrap_u64', InI]; (repeat' refine And.intro ?_ ?_) <;> omega) | ((repeat' refine And.intro ?_ ?_) <;> first | omega | rfl | exact Nat.le_refl _ | exact Nat.le_of_ble_eq_true rfl | exact bytesF_one _) | (simp_all; done) | (simp_all; omega))) ?_ | refine r_gobj rfl rfl rfl rfl (by (first | omega | exact Nat.le_of_ble_eq_true rfl | (simp only [wrap_u8, IntKind.wrap_i64, IntKind.wrap_i32, wrap_u32', wrap_u64', InI]; (repeat' refine And.intro ?_ ?_) <;> omega) | ((repeat' refine And.intro ?_ ?_) <;> first | omega | rfl | exact Nat.le_refl _ | exact Nat.le_of_ble_eq_true rfl | exact bytesF_one _) | (simp_all; done) | (simp_all; omega))) ?_
    | refine e_hit rfl ?_ | refine e_miss rfl ?_
    | refine ⟨by kernel_rfl, ?_⟩ | refine x_end rfl ?_ | refine r_call (f := 44) rfl rfl Tryz.call44 rfl c1 ?_ | refine r_call (f := 47) rfl rfl Tryz.call47 rfl c2 ?_ | refine r_call (f := 48) rfl rfl Tryz.call48 rfl c3 ?_ | ((with_reducible refine c_grd ?_); (fail_if_success (refine c_lit true rfl rfl rfl ?_)); (fail_if_success (refine c_lit false rfl rfl rfl ?_)); refine c_split rfl rfl (fun _ => ?_) (fun _ => ?_)))
  rfl

set_option maxHeartbeats 1000000 in
theorem bits_ok (neg : Bool) (s : List UInt8) (e : Int) (h : RightP neg s e) (ho : ¬ overB (numV s e) (denV e)) : Ctr Tryz.prog 25 [dcD neg s e] (.tu [.i .u64 (bitsV neg s e), .i .i64 0]) := by
  obtain ⟨b1, b2, b3, b4⟩ := h.bounds
  have c1 := right_ctr neg s e (by omega)
  rw [rightB_iff.2 h] at c1
  have c2 := ratio_ctr neg s e h
  obtain ⟨n1, n2, n3, n4⟩ := ratN_ok (B := 4294967296) (by omega) s e
  obtain ⟨d1, d2, d3, d4⟩ := ratD_ok (B := 4294967296) (by omega) e
  have c3 := against_ctr (ratN 4294967296 s e) (ratD 4294967296 e) 18014398509481983 970 n2 d2 n3 (by omega) (by omega) (by omega) (by omega) (by omega)
  have c4 := floor_ctr (ratN 4294967296 s e) (ratD 4294967296 e) n2 d2 n3 (by omega) (by omega)
  rw [n1, d1] at c3 c4
  obtain ⟨f1, f2, f3, f4⟩ := flB_ok (numV s e) (denV e)
  have hfin := ro_fin ho
  unfold overB at ho
  have hro : roB (numV s e) (denV e) = if upB (numV s e) (denV e) (flB (numV s e) (denV e)) = true then flB (numV s e) (denV e) + 1 else flB (numV s e) (denV e) := rfl
  have hup : upB (numV s e) (denV e) (flB (numV s e) (denV e)) = (decide (0 < cmpQ (numV s e) (denV e) (2 * mB (flB (numV s e) (denV e)) + 1) (eB (flB (numV s e) (denV e)) - 1)) || (decide (cmpQ (numV s e) (denV e) (2 * mB (flB (numV s e) (denV e)) + 1) (eB (flB (numV s e) (denV e)) - 1) = 0) && decide (mB (flB (numV s e) (denV e)) % 2 = 1))) := rfl
  unfold bitsV
  generalize hN : numV s e = N at *
  generalize hD : denV e = D' at *
  generalize flB N D' = b at *
  generalize roB N D' = r at *
  have c5 := parts_ctr b (by omega)
  rw [partsD_some (by omega) f1] at c5
  have hm := mB_lt b
  have he1 := e_ge b
  have he2 := eB_lt b (by omega)
  have e2m : ∀ _ : Unit, IntKind.u64.wrap (IntKind.u64.wrap (2 * (mB b : Int)) + 1) = ((2 * mB b + 1 : Nat) : Int) := fun _ => by
    rw [wrap_u64', wrap_u64']
    omega
  have c6 := against_ctr (ratN 4294967296 s e) (ratD 4294967296 e) (2 * mB b + 1) (eB b - 1) n2 d2 n3 (by omega) (by omega) (by omega) (by omega) (by omega)
  rw [n1, d1] at c6
  generalize cmpQ N D' 18014398509481983 970 = q at c3 ho
  generalize cmpQ N D' (2 * mB b + 1) (eB b - 1) = hq at c6 hup
  have hb63 : b < 9223372036854775808 := by omega
  clear f2 f3 hD hN n1 d1 f4
  have hr63 : r < 9223372036854775808 := by unfold xB at hfin; omega
  have hsgn : ∀ x : Nat, x < 9223372036854775808 → bits .or .u64 (x : Int) 9223372036854775808 = ((x + 9223372036854775808 : Nat) : Int) := fun x hx => by
    rw [bits_or_comm, bits_join .u64 64 (by decide) wraps_u64 63 _ _ (by omega) (by decide) (by decide) (by omega) (by omega) (by omega)]
    omega
  have hinc : ∀ x : Nat, x < 9223372036854775808 → IntKind.u64.wrap ((x : Int) + 1) = ((x + 1 : Nat) : Int) := fun x hx => by
    rw [wrap_u64']
    omega
  clear hfin f1
  generalize upB N D' b = u at hro hup
  generalize mB b = mm at *
  generalize eB b = ee at *
  have R1 : u = true → r = b + 1 := fun h => by rw [hro, if_pos h]
  have R0 : u = false → r = b := fun h => by rw [hro, if_neg (by rw [h]; decide)]
  have hn : ({ data := #[] } : ByteArray).data.toList = [] := rfl
  have S1 : ∀ x : Nat, r = x → neg = true → (s == ({ data := #[] } : ByteArray).data.toList) = false → D.tu [.i .u64 (bits .or .u64 (x : Int) 9223372036854775808), .i .i64 0] = D.tu [.i .u64 ((r + if neg = true ∧ ¬ s = [] then 9223372036854775808 else 0 : Nat) : Int), .i .i64 0] := by
    intro x hx h1 h2
    subst hx
    rw [hsgn r hr63, if_pos ⟨h1, by rw [hn] at h2; simpa using h2⟩]
  have S2 : ∀ x : Nat, r = x → (neg = true → (s == ({ data := #[] } : ByteArray).data.toList) = true) → D.tu [.i .u64 (x : Int), .i .i64 0] = D.tu [.i .u64 ((r + if neg = true ∧ ¬ s = [] then 9223372036854775808 else 0 : Nat) : Int), .i .i64 0] := by
    intro x hx h1
    subst hx
    rw [if_neg, Nat.add_zero]
    rintro ⟨h2, h3⟩
    have := h1 h2
    rw [hn] at this
    exact h3 (by simpa using this)
  refine r_fun Tryz.func25 rfl Tryz.ntmps25 Tryz.results25 rfl rfl fun X hL hX => ?_
  repeat' (first
    | with_reducible refine t_seq ?_ | with_reducible refine t_region ?_ | with_reducible refine c_nil ?_ | with_reducible refine n_then ?_
    | with_reducible refine t_ret ?_ | with_reducible refine t_skip ?_ | with_reducible refine t_exit ?_ | with_reducible refine t_block ?_
    | with_reducible refine n_block ?_ | with_reducible refine e_then ?_ | with_reducible refine x_then ?_ | with_reducible refine x_block ?_ | with_reducible refine t_draw ?_
    | refine r_val rfl rfl True.intro ?_ | refine r_gskip rfl rfl rfl ?_ | refine r_gskip2 rfl rfl rfl ?_ | refine r_gval rfl rfl rfl rfl True.intro ?_
    | refine t_true rfl ?_ | refine t_false rfl ?_
    | ((first | refine t_cond_d rfl (fun _ => ?_) (fun _ => ?_) | refine t_cond_i rfl (fun _ => ?_) (fun _ => ?_) | refine t_cond_j rfl (fun _ => ?_) (fun _ => ?_) | refine t_cond_s rfl (fun _ => ?_) (fun _ => ?_) | refine t_cond_n rfl (fun _ => ?_) (fun _ => ?_) | refine t_cond rfl (fun _ => ?_) (fun _ => ?_) | refine c_split_d rfl rfl (fun _ => ?_) (fun _ => ?_) | refine c_split_i rfl rfl (fun _ => ?_) (fun _ => ?_) | refine c_split_j rfl rfl (fun _ => ?_) (fun _ => ?_) | refine c_split_s rfl rfl (fun _ => ?_) (fun _ => ?_) | refine c_split_n rfl rfl (fun _ => ?_) (fun _ => ?_)) <;> try (first | (rename_i hz; exact Bool.noConfusion (show true = false from hz)) | (rename_i hz; exact Bool.noConfusion (show false = true from hz)) | (exfalso; omega)))
    | refine r_val rfl rfl (by (first | omega | exact Nat.le_of_ble_eq_true rfl | (simp only [wrap_u8, IntKind.wrap_i64, IntKind.wrap_i32, wrap_u32', wrap_u64', InI]; (repeat' refine And.intro ?_ ?_) <;> omega) | ((repeat' refine And.intro ?_ ?_) <;> first | omega | rfl | exact Nat.le_refl _ | exact Nat.le_of_ble_eq_true rfl | exact bytesF_one _) | (simp_all; done) | (simp_all; omega))) ?_ | refine r_gval rfl rfl rfl rfl (by (first | omega | exact Nat.le_of_ble_eq_true rfl | (simp only [wrap_u8, IntKind.wrap_i64, IntKind.wrap_i32, wrap_u32', wrap_u64', InI]; (repeat' refine And.intro ?_ ?_) <;> omega) | ((repeat' refine And.intro ?_ ?_) <;> first | omega | rfl | exact Nat.le_refl _ | exact Nat.le_of_ble_eq_true rfl | exact bytesF_one _) | (simp_all; done) | (simp_all; omega))) ?_
    | refine r_obj rfl rfl (by (first | omega | exact Nat.le_of_ble_eq_true rfl | (simp only [wrap_u8, IntKind.wrap_i64, IntKind.wrap_i32, wrap_u32', wrap_u64', InI]; (repeat' refine And.intro ?_ ?_) <;> omega) | ((repeat' refine And.intro ?_ ?_) <;> first | omega | rfl | exact Nat.le_refl _ | exact Nat.le_of_ble_eq_true rfl | exact bytesF_one _) | (simp_all; done) | (simp_all; omega))) ?_ | refine r_sto rfl (by (first | omega | exact Nat.le_of_ble_eq_true rfl | (simp only [wrap_u8, IntKind.wrap_i64, IntKind.wrap_i32, wrap_u32', wrap_u64', InI]; (repeat' refine And.intro ?_ ?_) <;> omega) | ((repeat' refine And.intro ?_ ?_) <;> first | omega | rfl | exact Nat.le_refl _ | exact Nat.le_of_ble_eq_true rfl | exact bytesF_one _) | (simp_all; done) | (simp_all; omega))) ?_ | refine r_gobj rfl rfl rfl rfl (by (first | omega | exact Nat.le_of_ble_eq_true rfl | (simp only [wrap_u8, IntKind.wrap_i64, IntKind.wrap_i32, wrap_u32', wrap_u64', InI]; (repeat' refine And.intro ?_ ?_) <;> omega) | ((repeat' refine And.intro ?_ ?_) <;> first | omega | rfl | exact Nat.le_refl _ | exact Nat.le_of_ble_eq_true rfl | exact bytesF_one _) | (simp_all; done) | (simp_all; omega))) ?_
    | refine e_hit rfl ?_ | refine e_miss rfl ?_
    | refine ⟨by kernel_rfl, ?_⟩ | refine x_end rfl ?_ | refine r_call (f := 44) rfl rfl Tryz.call44 rfl c1 ?_ | refine r_call (f := 47) rfl rfl Tryz.call47 rfl c2 ?_ | refine r_call (f := 48) rfl rfl Tryz.call48 rfl c3 ?_ | refine r_call (f := 49) rfl rfl Tryz.call49 rfl c4 ?_ | refine r_call (f := 30) rfl rfl Tryz.call30 rfl c5 ?_ | refine r_call (f := 48) rfl rfl Tryz.call48 rfl (by rw [e2m ()]; exact c6) ?_ | ((with_reducible refine c_grd ?_); (fail_if_success (refine c_lit true rfl rfl rfl ?_)); (fail_if_success (refine c_lit false rfl rfl rfl ?_)); refine c_split rfl rfl (fun _ => ?_) (fun _ => ?_)))
  · rw [hinc b hb63]; exact S1 _ (R1 (by rw [hup]; simp [*])) ‹_› ‹_›
  · rw [hinc b hb63]; exact S2 _ (R1 (by rw [hup]; simp [*])) (fun _ => ‹_›)
  · rw [hinc b hb63]; exact S2 _ (R1 (by rw [hup]; simp [*])) (fun h => Bool.noConfusion (h.symm.trans ‹neg = false›))
  · have hu : u = true := by rw [hup]; simp [*]; omega
    rw [hinc b hb63]; exact S1 _ (R1 hu) ‹_› ‹_›
  · have hu : u = true := by rw [hup]; simp [*]; omega
    rw [hinc b hb63]; exact S2 _ (R1 hu) (fun _ => ‹_›)
  · have hu : u = true := by rw [hup]; simp [*]; omega
    rw [hinc b hb63]; exact S2 _ (R1 hu) (fun h => Bool.noConfusion (h.symm.trans ‹neg = false›))
  · have hu : u = false := by rw [hup]; simp [*]; omega
    exact S1 _ (R0 hu) ‹_› ‹_›
  · have hu : u = false := by rw [hup]; simp [*]; omega
    exact S2 _ (R0 hu) (fun _ => ‹_›)
  · have hu : u = false := by rw [hup]; simp [*]; omega
    exact S2 _ (R0 hu) (fun h => Bool.noConfusion (h.symm.trans ‹neg = false›))
  · have hu : u = false := by rw [hup]; simp [*]
    exact S1 _ (R0 hu) ‹_› ‹_›
  · have hu : u = false := by rw [hup]; simp [*]
    exact S2 _ (R0 hu) (fun _ => ‹_›)
  · have hu : u = false := by rw [hup]; simp [*]
    exact S2 _ (R0 hu) (fun h => Bool.noConfusion (h.symm.trans ‹neg = false›))

end Go.Proofs.YteidmimpkipcfaaGreatDoor.Flow

/- DEC: the reference's order, digit by digit. -/
namespace Go.Proofs.YteidmimpkipcfaaGreatDoor.Flow
open Go

/-- The digit that counts 10 to so much. -/
def atF (s : List UInt8) (e p : Int) : Int := if (s.length : Int) - 1 - (p - e) < 0 ∨ (s.length : Int) ≤ s.length - 1 - (p - e) then 0 else at' s (s.length - 1 - (p - e)) - 48
def dgF (neg : Bool) (s : List UInt8) (e p : Int) : Int := if neg = true then -atF s e p else atF s e p

/-- Which comes first: digit by digit, so many places down from p. -/
def ordG (f g : Int → Int) : Nat → Int → Int
  | 0, _ => 0
  | k + 1, p => if f p < g p then -1 else if g p < f p then 1 else ordG f g k (p - 1)

theorem atF_range {s : List UInt8} {e : Int} (h : digs s) (p : Int) : 0 ≤ atF s e p ∧ atF s e p ≤ 9 := by
  unfold atF
  split
  · omega
  · rename_i h1
    have := h ((s.length : Int) - 1 - (p - e)).toNat (by omega)
    rw [show ((((s.length : Int) - 1 - (p - e)).toNat : Nat) : Int) = s.length - 1 - (p - e) by omega] at this
    omega

end Go.Proofs.YteidmimpkipcfaaGreatDoor.Flow

/- DEC: the order digit by digit is the program's order. -/
namespace Go.Proofs.YteidmimpkipcfaaGreatDoor.Flow
open Go

theorem ordG_congr {f g f' g' : Int → Int} : ∀ (k : Nat) (p : Int), (∀ j : Nat, j < k → f (p - j) = f' (p - j) ∧ g (p - j) = g' (p - j)) → ordG f g k p = ordG f' g' k p
  | 0, _, _ => rfl
  | k + 1, p, h => by
    have h0 := h 0 (by omega)
    simp only [Int.natCast_zero, Int.sub_zero] at h0
    have ih := ordG_congr k (p - 1) (fun j hj => by
      have := h (j + 1) (by omega)
      rwa [show p - ((j + 1 : Nat) : Int) = p - 1 - j by omega] at this)
    rw [ordG, ordG, h0.1, h0.2, ih]

theorem ordG_skip {f g : Int → Int} : ∀ (m k : Nat) (p : Int), (∀ j : Nat, j < m → f (p - j) = g (p - j)) → ordG f g (m + k) p = ordG f g k (p - m)
  | 0, k, p, _ => by simp
  | m + 1, k, p, h => by
    have h0 := h 0 (by omega)
    simp only [Int.natCast_zero, Int.sub_zero] at h0
    rw [show m + 1 + k = (m + k) + 1 by omega, ordG, if_neg (by omega), if_neg (by omega), ordG_skip m k (p - 1) (fun j hj => by
      have := h (j + 1) (by omega)
      rwa [show p - ((j + 1 : Nat) : Int) = p - 1 - j by omega] at this), show p - 1 - (m : Int) = p - ((m + 1 : Nat) : Int) by omega]

theorem ordG_lt {f g : Int → Int} {m k : Nat} {p : Int} (h : ∀ j : Nat, j < m → f (p - j) = g (p - j)) (h2 : f (p - m) < g (p - m)) (hk : m < k) : ordG f g k p = -1 := by
  obtain ⟨n, rfl⟩ : ∃ n, k = m + (n + 1) := ⟨k - m - 1, by omega⟩
  rw [ordG_skip m (n + 1) p h, ordG, if_pos h2]

theorem ordG_swap (f g : Int → Int) : ∀ (k : Nat) (p : Int), ordG g f k p = -ordG f g k p
  | 0, _ => rfl
  | k + 1, p => by
    rw [ordG, ordG, ordG_swap f g k (p - 1)]
    (repeat' split) <;> omega

theorem ordG_neg (f g : Int → Int) : ∀ (k : Nat) (p : Int), ordG (fun q => -f q) (fun q => -g q) k p = -ordG f g k p
  | 0, _ => rfl
  | k + 1, p => by
    rw [ordG, ordG, ordG_neg f g k (p - 1)]
    (repeat' split) <;> omega

theorem ordG_eq {f g : Int → Int} (k : Nat) (p : Int) (h : ∀ j : Nat, j < k → f (p - j) = g (p - j)) : ordG f g k p = 0 := ordG_skip k 0 p h

/-- A digit counted from the left; 0 behind the last. -/
def pad (s : List UInt8) (j : Nat) : Int := if j < s.length then at' s j - 48 else 0

theorem atF_pad (s : List UInt8) (e : Int) (j : Nat) : atF s e (s.length + e - 1 - j) = pad s j := by
  unfold atF pad
  rw [show (s.length : Int) - 1 - (s.length + e - 1 - j - e) = j by omega]
  by_cases h : j < s.length
  · rw [if_neg (by omega), if_pos h]
  · rw [if_pos (by omega), if_neg h]
theorem atF_above (s : List UInt8) (e p : Int) (h : s.length + e ≤ p) : atF s e p = 0 := by
  unfold atF
  rw [if_pos (by omega)]

theorem pad_cons0 (c : UInt8) (s : List UInt8) : pad (c :: s) 0 = (c.toNat : Int) - 48 := rfl
theorem pad_cons (c : UInt8) (s : List UInt8) (j : Nat) : pad (c :: s) (j + 1) = pad s j := by
  unfold pad
  simp only [List.length_cons, Nat.add_lt_add_iff_right]
  split
  · congr 1
  · rfl

/-- The last digit is no nought. -/
def lastOk (s : List UInt8) : Prop := ∀ c r, s = r ++ [c] → ¬ c = 48
theorem lastOk.tail {c : UInt8} {s : List UInt8} (h : lastOk (c :: s)) : lastOk s := fun d r e => h d (c :: r) (by rw [e]; rfl)

theorem dig_cons {c : UInt8} {s : List UInt8} (h : digs (c :: s)) : 48 ≤ (c.toNat : Int) ∧ (c.toNat : Int) ≤ 57 ∧ digs s := by
  refine ⟨(h 0 (by simp)).1, (h 0 (by simp)).2, fun i hi => ?_⟩
  have := h (i + 1) (by simpa using hi)
  exact this

theorem cmp_pad : ∀ (x y : List UInt8) (k : Nat) (f g : Int → Int) (p : Int), digs x → digs y → lastOk x → lastOk y → x.length ≤ k → y.length ≤ k → (∀ j : Nat, f (p - j) = pad x j) → (∀ j : Nat, g (p - j) = pad y j) →
    ordG f g k p = Lib.compareBytes x y
  | [], [], k, f, g, p, _, _, _, _, _, _, hf, hg => ordG_eq k p fun j _ => by rw [hf, hg]
  | [], b :: y, k, f, g, p, dx, dy, lx, ly, kx, ky, hf, hg => by
    obtain ⟨d1, d2, d3⟩ := dig_cons dy
    obtain ⟨k, rfl⟩ : ∃ n, k = n + 1 := ⟨k - 1, by simp at ky; omega⟩
    have h0 := hf 0
    have h1 := hg 0
    rw [pad_cons0] at h1
    simp only [Int.natCast_zero, Int.sub_zero] at h0 h1
    have h0 : f p = 0 := h0
    rw [ordG, h0, h1]
    show _ = -1
    by_cases hb : b = 48
    · subst hb
      rw [if_neg (by decide), if_neg (by decide)]
      match y, d3, ly, ky with
      | [], _, ly, _ => exact absurd rfl (ly 48 [] rfl)
      | c :: y, d3, ly, ky =>
        rw [cmp_pad [] (c :: y) k f g (p - 1) dx d3 lx ly.tail (Nat.zero_le _) (by simpa using ky) (fun j => by
          have := hf (j + 1)
          rwa [show p - ((j + 1 : Nat) : Int) = p - 1 - j by omega] at this) (fun j => by
          have := hg (j + 1)
          rwa [show p - ((j + 1 : Nat) : Int) = p - 1 - j by omega, pad_cons] at this)]
        rfl
    · have : ¬ (b.toNat : Int) = 48 := fun h => hb ((byte_eq b 48 (by omega)).1 h)
      rw [if_pos (by omega)]
  | a :: x, [], k, f, g, p, dx, dy, lx, ly, kx, ky, hf, hg => by
    have := cmp_pad [] (a :: x) k g f p dy dx ly lx ky kx hg hf
    rw [ordG_swap, this]
    rfl
  | a :: x, b :: y, k, f, g, p, dx, dy, lx, ly, kx, ky, hf, hg => by
    obtain ⟨k, rfl⟩ : ∃ n, k = n + 1 := ⟨k - 1, by simp at ky; omega⟩
    have h0 := hf 0
    have h1 := hg 0
    rw [pad_cons0] at h0 h1
    simp only [Int.natCast_zero, Int.sub_zero] at h0 h1
    rw [ordG, h0, h1]
    show _ = if a < b then -1 else if b < a then 1 else Lib.compareBytes x y
    have e1 : ((a.toNat : Int) - 48 < (b.toNat : Int) - 48) ↔ a < b := by rw [UInt8.lt_iff_toNat_lt]; omega
    have e2 : ((b.toNat : Int) - 48 < (a.toNat : Int) - 48) ↔ b < a := by rw [UInt8.lt_iff_toNat_lt]; omega
    have ih := cmp_pad x y k f g (p - 1) (dig_cons dx).2.2 (dig_cons dy).2.2 lx.tail ly.tail (by simpa using kx) (by simpa using ky) (fun j => by
          have := hf (j + 1)
          rwa [show p - ((j + 1 : Nat) : Int) = p - 1 - j by omega, pad_cons] at this) (fun j => by
          have := hg (j + 1)
          rwa [show p - ((j + 1 : Nat) : Int) = p - 1 - j by omega, pad_cons] at this)
    rw [ih]
    simp only [e1, e2]

/-- Of two values above 0: which is greater. -/
def sizeF (sa : List UInt8) (ea : Int) (sb : List UInt8) (eb : Int) : Int :=
  if Lib.compareInt (sa.length + ea) (sb.length + eb) = 0 then Lib.compareBytes sa sb else Lib.compareInt (sa.length + ea) (sb.length + eb)
def signF (neg : Bool) (s : List UInt8) : Int := if s.length = 0 then 0 else if neg = true then -1 else 1
def orderF (na : Bool) (sa : List UInt8) (ea : Int) (nb : Bool) (sb : List UInt8) (eb : Int) : Int :=
  if ¬ signF na sa = signF nb sb ∨ signF na sa = 0 then Lib.compareInt (signF na sa) (signF nb sb) else signF na sa * sizeF sa ea sb eb

theorem right_last {neg : Bool} {s : List UInt8} {e : Int} (h : RightP neg s e) : lastOk s := fun c r hs => by
  subst hs
  have h0 : ¬ (r ++ [c]).length = 0 := by simp
  rw [right_cons h0] at h
  have h4 := h.2.2.2.1
  intro hc
  subst hc
  apply h4
  simp [at', List.getD_eq_getElem?_getD]

theorem right_first {neg : Bool} {s : List UInt8} {e : Int} (h : RightP neg s e) (h0 : ¬ s.length = 0) : 1 ≤ pad s 0 := by
  rw [right_cons h0] at h
  have h1 := h.1 0 (by omega)
  have h3 := h.2.2.1
  unfold pad
  rw [if_pos (by omega)]
  have h1 : 48 ≤ at' s 0 ∧ at' s 0 ≤ 57 := h1
  show 1 ≤ at' s 0 - 48
  omega

theorem size_ord {na nb : Bool} {sa sb : List UInt8} {ea eb : Int} (ha : RightP na sa ea) (hb : RightP nb sb eb) (h0 : ¬ sa.length = 0) (h1 : ¬ sb.length = 0) :
    ordG (atF sa ea) (atF sb eb) 2103 1101 = sizeF sa ea sb eb := by
  obtain ⟨a1, a2, a3, a4⟩ := ha.bounds
  obtain ⟨b1, b2, b3, b4⟩ := hb.bounds
  have key : ∀ {na nb : Bool} {sa sb : List UInt8} {ea eb : Int}, RightP na sa ea → RightP nb sb eb → ¬ sb.length = 0 → (sa.length : Int) + ea < sb.length + eb → ordG (atF sa ea) (atF sb eb) 2103 1101 = -1 := by
    intro na nb sa sb ea eb ha hb h1 hlt
    obtain ⟨a1, a2, a3, a4⟩ := ha.bounds
    obtain ⟨b1, b2, b3, b4⟩ := hb.bounds
    refine ordG_lt (m := (1101 - (sb.length + eb - 1)).toNat) (fun j hj => ?_) ?_ (by omega)
    · rw [atF_above _ _ _ (by omega), atF_above _ _ _ (by omega)]
    · rw [atF_above _ _ _ (by omega), show 1101 - (((1101 - (sb.length + eb - 1)).toNat : Nat) : Int) = sb.length + eb - 1 - ((0 : Nat) : Int) by omega, atF_pad]
      have := right_first hb h1
      omega
  unfold sizeF Lib.compareInt
  by_cases hlt : (sa.length : Int) + ea < sb.length + eb
  · rw [if_pos hlt, if_neg (by omega), key ha hb h1 hlt]
  · rw [if_neg hlt]
    by_cases hgt : (sa.length : Int) + ea > sb.length + eb
    · rw [if_pos hgt, if_neg (by omega), ordG_swap, key hb ha h0 hgt]
      rfl
    · rw [if_neg hgt, if_pos rfl]
      have e : (2103 : Nat) = (1101 - (sa.length + ea - 1)).toNat + (2103 - (1101 - (sa.length + ea - 1)).toNat) := by omega
      rw [e, ordG_skip _ _ _ (fun j hj => by rw [atF_above _ _ _ (by omega), atF_above _ _ _ (by omega)]), show 1101 - (((1101 - (sa.length + ea - 1)).toNat : Nat) : Int) = sa.length + ea - 1 by omega]
      refine cmp_pad sa sb _ _ _ _ a4 b4 (right_last ha) (right_last hb) (by omega) (by omega) (fun j => atF_pad sa ea j) (fun j => ?_)
      rw [show (sa.length : Int) + ea - 1 - j = sb.length + eb - 1 - j by omega]
      exact atF_pad sb eb j

theorem atF_nil (e p : Int) : atF [] e p = 0 := by
  unfold atF
  rw [if_pos (by simp; omega)]

theorem first_pos {neg : Bool} {s : List UInt8} {e : Int} (h : RightP neg s e) (h0 : ¬ s.length = 0) {f : Int → Int} (hf : ∀ p, f p ≤ 0) : ordG f (atF s e) 2103 1101 = -1 := by
  obtain ⟨b1, b2, b3, b4⟩ := h.bounds
  have key : ∀ (n : Nat), n ≤ 2103 → (∀ j : Nat, j < n → f (1101 - j) = 0) ∨ ordG f (atF s e) 2103 1101 = -1 := by
    intro n
    induction n with
    | zero => exact fun _ => .inl fun j hj => by omega
    | succ n ih =>
      intro hn
      rcases ih (by omega) with ih | ih
      · by_cases hz : f (1101 - n) = 0
        · left
          intro j hj
          by_cases e : j = n
          · rw [e]; exact hz
          · exact ih j (by omega)
        · right
          by_cases hs : ∃ j : Nat, j < n ∧ 0 < atF s e (1101 - j)
          · obtain ⟨j, hj, hp⟩ := hs
            have : ∃ m : Nat, m < n ∧ (∀ i : Nat, i < m → atF s e (1101 - i) = 0) ∧ 0 < atF s e (1101 - m) := by
              induction j using Nat.strongRecOn with
              | ind j ihj =>
                by_cases hx : ∃ i : Nat, i < j ∧ 0 < atF s e (1101 - i)
                · obtain ⟨i, hi, hpi⟩ := hx
                  exact ihj i hi (by omega) hpi
                · refine ⟨j, hj, fun i hi => ?_, hp⟩
                  have := (atF_range (e := e) b4 (1101 - i)).1
                  have : ¬ 0 < atF s e (1101 - i) := fun h => hx ⟨i, hi, h⟩
                  omega
            obtain ⟨m, hm, h1, h2⟩ := this
            exact ordG_lt (m := m) (fun i hi => by rw [ih i (by omega), h1 i hi]) (by rw [ih m hm]; exact h2) (by omega)
          · refine ordG_lt (m := n) (fun i hi => ?_) ?_ (by omega)
            · have := (atF_range (e := e) b4 (1101 - i)).1
              have : ¬ 0 < atF s e (1101 - i) := fun h => hs ⟨i, hi, h⟩
              rw [ih i hi]
              omega
            · have := (atF_range (e := e) b4 (1101 - n)).1
              have := hf (1101 - n)
              omega
      · exact .inr ih
  rcases key 2103 (Nat.le_refl _) with h1 | h1
  · refine ordG_lt (m := (1101 - (s.length + e - 1)).toNat) (fun j hj => ?_) ?_ (by omega)
    · rw [h1 j (by omega), atF_above _ _ _ (by omega)]
    · rw [h1 _ (by omega), show 1101 - (((1101 - (s.length + e - 1)).toNat : Nat) : Int) = s.length + e - 1 - ((0 : Nat) : Int) by omega, atF_pad]
      have := right_first h h0
      omega
  · exact h1

theorem order_same {na nb : Bool} {sa sb : List UInt8} {ea eb : Int} (ha : RightP na sa ea) (hb : RightP nb sb eb) : ordG (dgF na sa ea) (dgF nb sb eb) 2103 1101 = orderF na sa ea nb sb eb := by
  obtain ⟨a1, a2, a3, a4⟩ := ha.bounds
  obtain ⟨b1, b2, b3, b4⟩ := hb.bounds
  have pa := fun p => (atF_range (e := ea) a4 p).1
  have pb := fun p => (atF_range (e := eb) b4 p).1
  have fz : ∀ {n : Bool} {s : List UInt8} {e : Int}, s.length = 0 → dgF n s e = fun _ => 0 := by
    intro n s e h
    obtain rfl := len_nil h
    funext p
    unfold dgF
    rw [atF_nil]
    split <;> rfl
  have fp : ∀ {s : List UInt8} {e : Int}, dgF false s e = atF s e := fun {s e} => rfl
  have fn : ∀ {s : List UInt8} {e : Int}, dgF true s e = fun q => -atF s e q := fun {s e} => rfl
  unfold orderF signF
  by_cases h0 : sa.length = 0
  · rw [if_pos h0, fz h0, if_pos (.inr rfl)]
    by_cases h1 : sb.length = 0
    · rw [if_pos h1, fz h1, ordG_eq _ _ (fun _ _ => rfl)]
      rfl
    · rw [if_neg h1]
      cases nb with
      | false => rw [fp, first_pos hb h1 (f := fun _ => 0) (fun _ => Int.le_refl _)]; rfl
      | true =>
        rw [fn]
        have := ordG_neg (fun _ => 0) (atF sb eb) 2103 1101
        rw [first_pos hb h1 (f := fun _ => 0) (fun _ => Int.le_refl _)] at this
        simp only [Int.neg_zero] at this
        rw [this]
        rfl
  · rw [if_neg h0]
    by_cases h1 : sb.length = 0
    · rw [if_pos h1, fz h1, ordG_swap]
      cases na with
      | false => rw [fp, first_pos ha h0 (f := fun _ => 0) (fun _ => Int.le_refl _)]; rfl
      | true =>
        rw [fn]
        have := ordG_neg (fun _ => 0) (atF sa ea) 2103 1101
        rw [first_pos ha h0 (f := fun _ => 0) (fun _ => Int.le_refl _)] at this
        simp only [Int.neg_zero] at this
        rw [this]
        rfl
    · rw [if_neg h1]
      have hs := size_ord ha hb h0 h1
      cases na with
      | false =>
        cases nb with
        | false =>
          rw [fp, fp, hs]
          simp
        | true =>
          rw [fp, fn, ordG_swap, first_pos ha h0 (f := fun q => -atF sb eb q) (fun p => by have := pb p; omega)]
          rfl
      | true =>
        cases nb with
        | false =>
          rw [fp, fn, first_pos hb h1 (f := fun q => -atF sa ea q) (fun p => by have := pa p; omega)]
          rfl
        | true =>
          rw [fn, fn, ordG_neg, hs]
          simp

end Go.Proofs.YteidmimpkipcfaaGreatDoor.Flow

/- DEC: digits without the zeros at their ends; a decimal as it must be. -/
namespace Go.Proofs.YteidmimpkipcfaaGreatDoor.Flow
open Go

abbrev tL (s : List UInt8) : List UInt8 := Lib.trimLeftB s 48
abbrev tR (s : List UInt8) : List UInt8 := Lib.trimRightB s 48

theorem at_last (r : List UInt8) (c : UInt8) : at' (r ++ [c]) (r.length : Int) = (c.toNat : Int) := by
  simp [at', List.getD_eq_getElem?_getD]

theorem tR_snoc_eq (r : List UInt8) : tR (r ++ [48]) = tR r := by simp [tR, Lib.trimRightB]
theorem tR_snoc_ne (r : List UInt8) (c : UInt8) (h : ¬ c = 48) : tR (r ++ [c]) = r ++ [c] := by simp [tR, Lib.trimRightB, h]

theorem u8_eq {c : UInt8} {n : Nat} (h : n < 256) : (c.toNat : Int) = n ↔ c = UInt8.ofNat n := byte_eq c n h

theorem tR_step (s : List UInt8) (h0 : ¬ s.length = 0) (h : at' s (s.length - 1) = 48) : tR (s.take (s.length - 1)) = tR s := by
  rcases snoc_casesU s with rfl | ⟨r, c, rfl⟩
  · simp at h0
  · have e : ((r ++ [c]).length : Int) - 1 = r.length := by simp
    rw [e, at_last] at h
    obtain rfl : c = 48 := (u8_eq (n := 48) (by omega)).1 h
    rw [tR_snoc_eq]
    simp

theorem tR_stop (s : List UInt8) (h : s.length = 0 ∨ ¬ at' s (s.length - 1) = 48) : tR s = s := by
  rcases snoc_casesU s with rfl | ⟨r, c, rfl⟩
  · rfl
  · have e : ((r ++ [c]).length : Int) - 1 = r.length := by simp
    rw [e, at_last] at h
    refine tR_snoc_ne r c fun hc => ?_
    subst hc
    rcases h with h | h
    · simp at h
    · exact h rfl

theorem tL_step (s : List UInt8) (h0 : ¬ s.length = 0) (h : at' s 0 = 48) : tL (s.drop 1) = tL s := by
  match s, h0 with
  | c :: r, _ =>
    have h : (c.toNat : Int) = 48 := h
    obtain rfl : c = 48 := (u8_eq (n := 48) (by omega)).1 h
    simp [tL, Lib.trimLeftB]

theorem tL_stop (s : List UInt8) (h : s.length = 0 ∨ ¬ at' s 0 = 48) : tL s = s := by
  match s with
  | [] => rfl
  | c :: r =>
    have h : ¬ (c.toNat : Int) = 48 := by
      rcases h with h | h
      · simp at h
      · exact h
    have : ¬ c = 48 := fun e => h (by rw [e]; rfl)
    simp [tL, Lib.trimLeftB, this]

theorem tL_len (s : List UInt8) : (tL s).length ≤ s.length := by
  unfold tL Lib.trimLeftB
  induction s with
  | nil => simp
  | cons c r ih =>
    rw [List.dropWhile_cons]
    split
    · simp only [List.length_cons]
      omega
    · simp
theorem tR_len (s : List UInt8) : (tR s).length ≤ s.length := by
  have := tL_len s.reverse
  unfold tR Lib.trimRightB
  unfold tL Lib.trimLeftB at this
  simpa using this

/-- Digits times a power of ten, as a decimal; what is wrong. -/
def normF (neg : Bool) (s : List UInt8) (e : Int) : (Bool × List UInt8 × Int) × Int :=
  if (tL (tR s)).length = 0 then ((false, [], 0), 0)
  else if 100 < (tL (tR s)).length then ((false, [], 0), 5)
  else if e + (s.length - (tR s).length) < -1000 ∨ 1000 < e + (s.length - (tR s).length) then ((false, [], 0), 8)
  else ((neg, tL (tR s), e + (s.length - (tR s).length)), 0)

abbrev dcV (x : Bool × List UInt8 × Int) : D := dcD x.1 x.2.1 x.2.2

end Go.Proofs.YteidmimpkipcfaaGreatDoor.Flow
