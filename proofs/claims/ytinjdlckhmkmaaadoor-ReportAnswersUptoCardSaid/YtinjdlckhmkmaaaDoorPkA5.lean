/- The texts D7, D4, D5, D8, D9, T3, T5, LibsI, D11, D15, D12, U1, U2, U3, U4, U5, T6, U6, U7, U8, U9, U10, U11, U12, U13, U14, U15, U16, U17, R3, D17a, T2, D16, one behind the other. -/
import Derived.Test.YtinjdlckhmkmaaaDoorPkA4
import Derived.Lib.Bytealg
import Derived.Lib.IndexAny
import Derived.Laws.BitsLemmas
import Derived.Lib.Join
/- DEC: the reference: digits, the form, the exponent. -/
namespace Go.Proofs.YtinjdlckhmkmaaaDoor.Flow
open Go

set_option maxHeartbeats 1000000 in
theorem rnorm_ctr (neg : Bool) (s : List UInt8) (e : Int) (hs : s.length ≤ 1099511627776) (h1 : -4611686018427387904 ≤ e) (h2 : e ≤ 4611686018427387904) :
    Ctr Tryd.prog 78 [.b neg, .s s, .i .i64 e] (.tu [dcV (normF neg s e).1, .i .i64 (normF neg s e).2]) := by
  generalize hR : normF neg s e = R
  unfold normF at hR
  replace hR := fun _ : Unit => hR.symm
  refine r_fun Tryd.func78 rfl Tryd.ntmps78 Tryd.results78 rfl rfl fun X hL hX => ?_
  repeat' (first
    | with_reducible refine t_seq ?_ | with_reducible refine t_region ?_ | with_reducible refine c_nil ?_ | with_reducible refine n_then ?_
    | with_reducible refine t_ret ?_ | with_reducible refine t_skip ?_ | with_reducible refine t_exit ?_ | with_reducible refine t_block ?_
    | with_reducible refine n_block ?_ | with_reducible refine e_then ?_ | with_reducible refine x_then ?_ | with_reducible refine x_block ?_ | with_reducible refine t_draw ?_
    | refine r_val rfl rfl True.intro ?_ | refine r_gskip rfl rfl rfl ?_ | refine r_gskip2 rfl rfl rfl ?_ | refine r_gval rfl rfl rfl rfl True.intro ?_
    | refine t_true rfl ?_ | refine t_false rfl ?_
    | ((first | refine t_cond_d rfl (fun _ => ?_) (fun _ => ?_) | refine t_cond_i rfl (fun _ => ?_) (fun _ => ?_) | refine t_cond_j rfl (fun _ => ?_) (fun _ => ?_) | refine t_cond_s rfl (fun _ => ?_) (fun _ => ?_) | refine t_cond_n rfl (fun _ => ?_) (fun _ => ?_) | refine t_cond rfl (fun _ => ?_) (fun _ => ?_) | refine c_split_d rfl rfl (fun _ => ?_) (fun _ => ?_) | refine c_split_i rfl rfl (fun _ => ?_) (fun _ => ?_) | refine c_split_j rfl rfl (fun _ => ?_) (fun _ => ?_) | refine c_split_s rfl rfl (fun _ => ?_) (fun _ => ?_) | refine c_split_n rfl rfl (fun _ => ?_) (fun _ => ?_)) <;> try (first | contradiction | (exfalso; omega)))
    | refine r_val rfl rfl (by (first | omega | exact Nat.le_of_ble_eq_true rfl | (simp only [wrap_u8, IntKind.wrap_i64, IntKind.wrap_i32, wrap_u32', wrap_u64', InI]; (repeat' refine And.intro ?_ ?_) <;> omega) | ((repeat' refine And.intro ?_ ?_) <;> first | omega | rfl | exact Nat.le_refl _ | exact Nat.le_of_ble_eq_true rfl | exact bytesF_one _) | (simp_all; done) | (simp_all; omega))) ?_ | refine r_gval rfl rfl rfl rfl (by (first | omega | exact Nat.le_of_ble_eq_true rfl | (simp only [wrap_u8, IntKind.wrap_i64, IntKind.wrap_i32, wrap_u32', wrap_u64', InI]; (repeat' refine And.intro ?_ ?_) <;> omega) | ((repeat' refine And.intro ?_ ?_) <;> first | omega | rfl | exact Nat.le_refl _ | exact Nat.le_of_ble_eq_true rfl | exact bytesF_one _) | (simp_all; done) | (simp_all; omega))) ?_
    | refine r_obj rfl rfl (by (first | omega | exact Nat.le_of_ble_eq_true rfl | (simp only [wrap_u8, IntKind.wrap_i64, IntKind.wrap_i32, wrap_u32', wrap_u64', InI]; (repeat' refine And.intro ?_ ?_) <;> omega) | ((repeat' refine And.intro ?_ ?_) <;> first | omega | rfl | exact Nat.le_refl _ | exact Nat.le_of_ble_eq_true rfl | exact bytesF_one _) | (simp_all; done) | (simp_all; omega))) ?_ | refine r_sto rfl (by (first | omega | exact Nat.le_of_ble_eq_true rfl | (simp only [wrap_u8, IntKind.wrap_i64, IntKind.wrap_i32, wrap_u32', wrap_u64', InI]; (repeat' refine And.intro ?_ ?_) <;> omega) | ((repeat' refine And.intro ?_ ?_) <;> first | omega | rfl | exact Nat.le_refl _ | exact Nat.le_of_ble_eq_true rfl | exact bytesF_one _) | (simp_all; done) | (simp_all; omega))) ?_ | refine r_gobj rfl rfl rfl rfl (by (first | omega | exact Nat.le_of_ble_eq_true rfl | (simp only [wrap_u8, IntKind.wrap_i64, IntKind.wrap_i32, wrap_u32', wrap_u64', InI]; (repeat' refine And.intro ?_ ?_) <;> omega) | ((repeat' refine And.intro ?_ ?_) <;> first | omega | rfl | exact Nat.le_refl _ | exact Nat.le_of_ble_eq_true rfl | exact bytesF_one _) | (simp_all; done) | (simp_all; omega))) ?_
    | refine e_hit rfl ?_ | refine e_miss rfl ?_
    | refine ⟨by kernel_rfl, ?_⟩ | refine x_end rfl ?_ | ((with_reducible refine c_grd ?_); (fail_if_success (refine c_lit true rfl rfl rfl ?_)); (fail_if_success (refine c_lit false rfl rfl rfl ?_)); refine c_split rfl rfl (fun _ => ?_) (fun _ => ?_)))
  refine T.loop hL (fun y : List UInt8 => [(0, .b neg), (1, .s y), (2, .i .i64 (e + (s.length - y.length))), (6, .pv 6 0)]) (fun _ => [(6, .var [.b false, .s [], .i .i64 0])]) (fun y => tR y = tR s ∧ y.length ≤ s.length) (fun y => y.length) s ⟨rfl, Nat.le_refl _⟩
    ⟨⟨rfl, rfl, by show D.i .i64 e = _; rw [Int.sub_self, Int.add_zero], rfl, trivial⟩, ⟨rfl, trivial⟩, rfl, by rw [hX]; intro k hk; cases hk⟩ ?_
  rintro y ⟨g1, g2⟩
  by_cases hy : y.length = 0 ∨ ¬ at' y (y.length - 1) = 48
  · have hst : y = tR s := by rw [← g1, tR_stop y hy]
    have hst := fun _ : Unit => hst
    clear g1
    have hm := fun _ : Unit => hst ()
    have hle : y.length ≤ s.length := g2
    have key : Unit → (tR s).length = y.length := fun _ => by rw [← hst ()]
    repeat' (first
      | with_reducible refine t_seq ?_ | with_reducible refine t_region ?_ | with_reducible refine c_nil ?_ | with_reducible refine n_then ?_
      | with_reducible refine t_ret ?_ | with_reducible refine t_skip ?_ | with_reducible refine t_exit ?_ | with_reducible refine t_block ?_
      | with_reducible refine n_block ?_ | with_reducible refine e_then ?_ | with_reducible refine x_then ?_ | with_reducible refine x_block ?_ | with_reducible refine t_draw ?_
      | refine r_val rfl rfl True.intro ?_ | refine r_gskip rfl rfl rfl ?_ | refine r_gskip2 rfl rfl rfl ?_ | refine r_gval rfl rfl rfl rfl True.intro ?_
      | refine t_true rfl ?_ | refine t_false rfl ?_
      | ((first | refine t_cond_d rfl (fun _ => ?_) (fun _ => ?_) | refine t_cond_i rfl (fun _ => ?_) (fun _ => ?_) | refine t_cond_j rfl (fun _ => ?_) (fun _ => ?_) | refine t_cond_s rfl (fun _ => ?_) (fun _ => ?_) | refine t_cond_n rfl (fun _ => ?_) (fun _ => ?_) | refine t_cond rfl (fun _ => ?_) (fun _ => ?_) | refine c_split_d rfl rfl (fun _ => ?_) (fun _ => ?_) | refine c_split_i rfl rfl (fun _ => ?_) (fun _ => ?_) | refine c_split_j rfl rfl (fun _ => ?_) (fun _ => ?_) | refine c_split_s rfl rfl (fun _ => ?_) (fun _ => ?_) | refine c_split_n rfl rfl (fun _ => ?_) (fun _ => ?_)) <;> try (first | contradiction | (exfalso; omega)))
      | refine r_val rfl rfl (by (first | omega | exact Nat.le_of_ble_eq_true rfl | (simp only [wrap_u8, IntKind.wrap_i64, IntKind.wrap_i32, wrap_u32', wrap_u64', InI]; (repeat' refine And.intro ?_ ?_) <;> omega) | ((repeat' refine And.intro ?_ ?_) <;> first | omega | rfl | exact Nat.le_refl _ | exact Nat.le_of_ble_eq_true rfl | exact bytesF_one _) | (simp_all; done) | (simp_all; omega))) ?_ | refine r_gval rfl rfl rfl rfl (by (first | omega | exact Nat.le_of_ble_eq_true rfl | (simp only [wrap_u8, IntKind.wrap_i64, IntKind.wrap_i32, wrap_u32', wrap_u64', InI]; (repeat' refine And.intro ?_ ?_) <;> omega) | ((repeat' refine And.intro ?_ ?_) <;> first | omega | rfl | exact Nat.le_refl _ | exact Nat.le_of_ble_eq_true rfl | exact bytesF_one _) | (simp_all; done) | (simp_all; omega))) ?_
      | refine r_obj rfl rfl (by (first | omega | exact Nat.le_of_ble_eq_true rfl | (simp only [wrap_u8, IntKind.wrap_i64, IntKind.wrap_i32, wrap_u32', wrap_u64', InI]; (repeat' refine And.intro ?_ ?_) <;> omega) | ((repeat' refine And.intro ?_ ?_) <;> first | omega | rfl | exact Nat.le_refl _ | exact Nat.le_of_ble_eq_true rfl | exact bytesF_one _) | (simp_all; done) | (simp_all; omega))) ?_ | refine r_sto rfl (by (first | omega | exact Nat.le_of_ble_eq_true rfl | (simp only [wrap_u8, IntKind.wrap_i64, IntKind.wrap_i32, wrap_u32', wrap_u64', InI]; (repeat' refine And.intro ?_ ?_) <;> omega) | ((repeat' refine And.intro ?_ ?_) <;> first | omega | rfl | exact Nat.le_refl _ | exact Nat.le_of_ble_eq_true rfl | exact bytesF_one _) | (simp_all; done) | (simp_all; omega))) ?_ | refine r_gobj rfl rfl rfl rfl (by (first | omega | exact Nat.le_of_ble_eq_true rfl | (simp only [wrap_u8, IntKind.wrap_i64, IntKind.wrap_i32, wrap_u32', wrap_u64', InI]; (repeat' refine And.intro ?_ ?_) <;> omega) | ((repeat' refine And.intro ?_ ?_) <;> first | omega | rfl | exact Nat.le_refl _ | exact Nat.le_of_ble_eq_true rfl | exact bytesF_one _) | (simp_all; done) | (simp_all; omega))) ?_
      | refine e_hit rfl ?_ | refine e_miss rfl ?_
      | refine ⟨by kernel_rfl, ?_⟩ | refine x_end rfl ?_ | ((with_reducible refine c_grd ?_); (fail_if_success (refine c_lit true rfl rfl rfl ?_)); (fail_if_success (refine c_lit false rfl rfl rfl ?_)); refine c_split rfl rfl (fun _ => ?_) (fun _ => ?_)))
    all_goals
      refine T.loop hL (fun z : List UInt8 => [(0, .b neg), (1, .s z), (2, .i .i64 (e + (s.length - y.length))), (6, .pv 6 0)]) (fun _ => [(6, .var [.b false, .s [], .i .i64 0])]) (fun z => tL z = tL y ∧ z.length ≤ y.length) (fun z => z.length) y ⟨rfl, Nat.le_refl _⟩
        ⟨⟨rfl, rfl, rfl, rfl, trivial⟩, ⟨rfl, trivial⟩, rfl, by rw [hX]; intro k hk; cases hk⟩ ?_
      rintro z ⟨q1, q2⟩
      by_cases hz : z.length = 0 ∨ ¬ at' z 0 = 48
      · have hz2 : z = tL y := by rw [← q1, tL_stop z hz]
        have hR2 : Unit → R = if z.length = 0 then ((false, [], 0), 0) else if 100 < z.length then ((false, [], 0), 5) else if e + (s.length - y.length) < -1000 ∨ 1000 < e + (s.length - y.length) then ((false, [], 0), 8) else ((neg, z, e + (s.length - y.length)), 0) := fun _ => by rw [hR (), ← hst (), ← hz2]
        clear q1 hz2 hR hst hm key
        repeat' (first
          | with_reducible refine t_seq ?_ | with_reducible refine t_region ?_ | with_reducible refine c_nil ?_ | with_reducible refine n_then ?_
          | with_reducible refine t_ret ?_ | with_reducible refine t_skip ?_ | with_reducible refine t_exit ?_ | with_reducible refine t_block ?_
          | with_reducible refine n_block ?_ | with_reducible refine e_then ?_ | with_reducible refine x_then ?_ | with_reducible refine x_block ?_ | with_reducible refine t_draw ?_
          | refine r_val rfl rfl True.intro ?_ | refine r_gskip rfl rfl rfl ?_ | refine r_gskip2 rfl rfl rfl ?_ | refine r_gval rfl rfl rfl rfl True.intro ?_
          | refine t_true rfl ?_ | refine t_false rfl ?_
          | ((first | refine t_cond_d rfl (fun _ => ?_) (fun _ => ?_) | refine t_cond_i rfl (fun _ => ?_) (fun _ => ?_) | refine t_cond_j rfl (fun _ => ?_) (fun _ => ?_) | refine t_cond_s rfl (fun _ => ?_) (fun _ => ?_) | refine t_cond_n rfl (fun _ => ?_) (fun _ => ?_) | refine t_cond rfl (fun _ => ?_) (fun _ => ?_) | refine c_split_d rfl rfl (fun _ => ?_) (fun _ => ?_) | refine c_split_i rfl rfl (fun _ => ?_) (fun _ => ?_) | refine c_split_j rfl rfl (fun _ => ?_) (fun _ => ?_) | refine c_split_s rfl rfl (fun _ => ?_) (fun _ => ?_) | refine c_split_n rfl rfl (fun _ => ?_) (fun _ => ?_)) <;> try (first | contradiction | (exfalso; omega)))
          | refine r_val rfl rfl (by (first | omega | exact Nat.le_of_ble_eq_true rfl | (simp only [wrap_u8, IntKind.wrap_i64, IntKind.wrap_i32, wrap_u32', wrap_u64', InI]; (repeat' refine And.intro ?_ ?_) <;> omega) | ((repeat' refine And.intro ?_ ?_) <;> first | omega | rfl | exact Nat.le_refl _ | exact Nat.le_of_ble_eq_true rfl | exact bytesF_one _) | (simp_all; done) | (simp_all; omega))) ?_ | refine r_gval rfl rfl rfl rfl (by (first | omega | exact Nat.le_of_ble_eq_true rfl | (simp only [wrap_u8, IntKind.wrap_i64, IntKind.wrap_i32, wrap_u32', wrap_u64', InI]; (repeat' refine And.intro ?_ ?_) <;> omega) | ((repeat' refine And.intro ?_ ?_) <;> first | omega | rfl | exact Nat.le_refl _ | exact Nat.le_of_ble_eq_true rfl | exact bytesF_one _) | (simp_all; done) | (simp_all; omega))) ?_
          | refine r_obj rfl rfl (by (first | omega | exact Nat.le_of_ble_eq_true rfl | (simp only [wrap_u8, IntKind.wrap_i64, IntKind.wrap_i32, wrap_u32', wrap_u64', InI]; (repeat' refine And.intro ?_ ?_) <;> omega) | ((repeat' refine And.intro ?_ ?_) <;> first | omega | rfl | exact Nat.le_refl _ | exact Nat.le_of_ble_eq_true rfl | exact bytesF_one _) | (simp_all; done) | (simp_all; omega))) ?_ | refine r_sto rfl (by (first | omega | exact Nat.le_of_ble_eq_true rfl | (simp only [wrap_u8, IntKind.wrap_i64, IntKind.wrap_i32, wrap_u32', wrap_u64', InI]; (repeat' refine And.intro ?_ ?_) <;> omega) | ((repeat' refine And.intro ?_ ?_) <;> first | omega | rfl | exact Nat.le_refl _ | exact Nat.le_of_ble_eq_true rfl | exact bytesF_one _) | (simp_all; done) | (simp_all; omega))) ?_ | refine r_gobj rfl rfl rfl rfl (by (first | omega | exact Nat.le_of_ble_eq_true rfl | (simp only [wrap_u8, IntKind.wrap_i64, IntKind.wrap_i32, wrap_u32', wrap_u64', InI]; (repeat' refine And.intro ?_ ?_) <;> omega) | ((repeat' refine And.intro ?_ ?_) <;> first | omega | rfl | exact Nat.le_refl _ | exact Nat.le_of_ble_eq_true rfl | exact bytesF_one _) | (simp_all; done) | (simp_all; omega))) ?_
          | refine e_hit rfl ?_ | refine e_miss rfl ?_
          | refine ⟨by kernel_rfl, ?_⟩ | refine x_end rfl ?_ | ((with_reducible refine c_grd ?_); (fail_if_success (refine c_lit true rfl rfl rfl ?_)); (fail_if_success (refine c_lit false rfl rfl rfl ?_)); refine c_split rfl rfl (fun _ => ?_) (fun _ => ?_)))
        all_goals first
          | (rw [hR2 (), if_pos (by omega)]; rfl)
          | (rw [hR2 (), if_neg (by omega), if_pos (by omega)]; rfl)
          | (rw [hR2 (), if_neg (by omega), if_neg (by omega), if_pos (by omega)]; rfl)
          | (rw [hR2 (), if_neg (by omega), if_neg (by omega), if_neg (by omega)]; rfl)
          | (exfalso; omega)
      · have hst2 := fun _ : Unit => tL_step z (by omega) (by omega)
        have q1 := fun _ : Unit => q1
        have hz1 : ¬ z.length = 0 := by omega
        have hz2 : at' z 0 = 48 := by omega
        clear hR hst hm key
        repeat' (first
          | with_reducible refine t_seq ?_ | with_reducible refine t_region ?_ | with_reducible refine c_nil ?_ | with_reducible refine n_then ?_
          | with_reducible refine t_ret ?_ | with_reducible refine t_skip ?_ | with_reducible refine t_exit ?_ | with_reducible refine t_block ?_
          | with_reducible refine n_block ?_ | with_reducible refine e_then ?_ | with_reducible refine x_then ?_ | with_reducible refine x_block ?_ | with_reducible refine t_draw ?_
          | refine r_val rfl rfl True.intro ?_ | refine r_gskip rfl rfl rfl ?_ | refine r_gskip2 rfl rfl rfl ?_ | refine r_gval rfl rfl rfl rfl True.intro ?_
          | refine t_true rfl ?_ | refine t_false rfl ?_
          | ((first | refine t_cond_d rfl (fun _ => ?_) (fun _ => ?_) | refine t_cond_i rfl (fun _ => ?_) (fun _ => ?_) | refine t_cond_j rfl (fun _ => ?_) (fun _ => ?_) | refine t_cond_s rfl (fun _ => ?_) (fun _ => ?_) | refine t_cond_n rfl (fun _ => ?_) (fun _ => ?_) | refine t_cond rfl (fun _ => ?_) (fun _ => ?_) | refine c_split_d rfl rfl (fun _ => ?_) (fun _ => ?_) | refine c_split_i rfl rfl (fun _ => ?_) (fun _ => ?_) | refine c_split_j rfl rfl (fun _ => ?_) (fun _ => ?_) | refine c_split_s rfl rfl (fun _ => ?_) (fun _ => ?_) | refine c_split_n rfl rfl (fun _ => ?_) (fun _ => ?_)) <;> try (first | contradiction | (exfalso; omega)))
          | refine r_val rfl rfl (by (first | omega | exact Nat.le_of_ble_eq_true rfl | (simp only [wrap_u8, IntKind.wrap_i64, IntKind.wrap_i32, wrap_u32', wrap_u64', InI]; (repeat' refine And.intro ?_ ?_) <;> omega) | ((repeat' refine And.intro ?_ ?_) <;> first | omega | rfl | exact Nat.le_refl _ | exact Nat.le_of_ble_eq_true rfl | exact bytesF_one _) | (simp_all; done) | (simp_all; omega))) ?_ | refine r_gval rfl rfl rfl rfl (by (first | omega | exact Nat.le_of_ble_eq_true rfl | (simp only [wrap_u8, IntKind.wrap_i64, IntKind.wrap_i32, wrap_u32', wrap_u64', InI]; (repeat' refine And.intro ?_ ?_) <;> omega) | ((repeat' refine And.intro ?_ ?_) <;> first | omega | rfl | exact Nat.le_refl _ | exact Nat.le_of_ble_eq_true rfl | exact bytesF_one _) | (simp_all; done) | (simp_all; omega))) ?_
          | refine r_obj rfl rfl (by (first | omega | exact Nat.le_of_ble_eq_true rfl | (simp only [wrap_u8, IntKind.wrap_i64, IntKind.wrap_i32, wrap_u32', wrap_u64', InI]; (repeat' refine And.intro ?_ ?_) <;> omega) | ((repeat' refine And.intro ?_ ?_) <;> first | omega | rfl | exact Nat.le_refl _ | exact Nat.le_of_ble_eq_true rfl | exact bytesF_one _) | (simp_all; done) | (simp_all; omega))) ?_ | refine r_sto rfl (by (first | omega | exact Nat.le_of_ble_eq_true rfl | (simp only [wrap_u8, IntKind.wrap_i64, IntKind.wrap_i32, wrap_u32', wrap_u64', InI]; (repeat' refine And.intro ?_ ?_) <;> omega) | ((repeat' refine And.intro ?_ ?_) <;> first | omega | rfl | exact Nat.le_refl _ | exact Nat.le_of_ble_eq_true rfl | exact bytesF_one _) | (simp_all; done) | (simp_all; omega))) ?_ | refine r_gobj rfl rfl rfl rfl (by (first | omega | exact Nat.le_of_ble_eq_true rfl | (simp only [wrap_u8, IntKind.wrap_i64, IntKind.wrap_i32, wrap_u32', wrap_u64', InI]; (repeat' refine And.intro ?_ ?_) <;> omega) | ((repeat' refine And.intro ?_ ?_) <;> first | omega | rfl | exact Nat.le_refl _ | exact Nat.le_of_ble_eq_true rfl | exact bytesF_one _) | (simp_all; done) | (simp_all; omega))) ?_
          | refine e_hit rfl ?_ | refine e_miss rfl ?_
          | refine ⟨by kernel_rfl, ?_⟩ | refine x_end rfl ?_ | ((with_reducible refine c_grd ?_); (fail_if_success (refine c_lit true rfl rfl rfl ?_)); (fail_if_success (refine c_lit false rfl rfl rfl ?_)); refine c_split rfl rfl (fun _ => ?_) (fun _ => ?_)))
        all_goals refine ⟨z.drop 1, ⟨(hst2 ()).trans (q1 ()), by simp; omega⟩, by simp only [List.length_drop]; omega, ⟨rfl, ?_, rfl, rfl, trivial⟩, ⟨rfl, trivial⟩, rfl, by rw [hX]; intro k hk; cases hk⟩
        all_goals exact congrArg D.s (by rw [Int.toNat_natCast, List.take_length]; rfl)
  · have hst := fun _ : Unit => tR_step y (by omega) (by omega)
    have g1 := fun _ : Unit => g1
    have hy1 : ¬ y.length = 0 := by omega
    have hy2 : at' y (y.length - 1) = 48 := by omega
    repeat' (first
      | with_reducible refine t_seq ?_ | with_reducible refine t_region ?_ | with_reducible refine c_nil ?_ | with_reducible refine n_then ?_
      | with_reducible refine t_ret ?_ | with_reducible refine t_skip ?_ | with_reducible refine t_exit ?_ | with_reducible refine t_block ?_
      | with_reducible refine n_block ?_ | with_reducible refine e_then ?_ | with_reducible refine x_then ?_ | with_reducible refine x_block ?_ | with_reducible refine t_draw ?_
      | refine r_val rfl rfl True.intro ?_ | refine r_gskip rfl rfl rfl ?_ | refine r_gskip2 rfl rfl rfl ?_ | refine r_gval rfl rfl rfl rfl True.intro ?_
      | refine t_true rfl ?_ | refine t_false rfl ?_
      | ((first | refine t_cond_d rfl (fun _ => ?_) (fun _ => ?_) | refine t_cond_i rfl (fun _ => ?_) (fun _ => ?_) | refine t_cond_j rfl (fun _ => ?_) (fun _ => ?_) | refine t_cond_s rfl (fun _ => ?_) (fun _ => ?_) | refine t_cond_n rfl (fun _ => ?_) (fun _ => ?_) | refine t_cond rfl (fun _ => ?_) (fun _ => ?_) | refine c_split_d rfl rfl (fun _ => ?_) (fun _ => ?_) | refine c_split_i rfl rfl (fun _ => ?_) (fun _ => ?_) | refine c_split_j rfl rfl (fun _ => ?_) (fun _ => ?_) | refine c_split_s rfl rfl (fun _ => ?_) (fun _ => ?_) | refine c_split_n rfl rfl (fun _ => ?_) (fun _ => ?_)) <;> try (first | contradiction | (exfalso; omega)))
      | refine r_val rfl rfl (by (first | omega | exact Nat.le_of_ble_eq_true rfl | (simp only [wrap_u8, IntKind.wrap_i64, IntKind.wrap_i32, wrap_u32', wrap_u64', InI]; (repeat' refine And.intro ?_ ?_) <;> omega) | ((repeat' refine And.intro ?_ ?_) <;> first | omega | rfl | exact Nat.le_refl _ | exact Nat.le_of_ble_eq_true rfl | exact bytesF_one _) | (simp_all; done) | (simp_all; omega))) ?_ | refine r_gval rfl rfl rfl rfl (by (first | omega | exact Nat.le_of_ble_eq_true rfl | (simp only [wrap_u8, IntKind.wrap_i64, IntKind.wrap_i32, wrap_u32', wrap_u64', InI]; (repeat' refine And.intro ?_ ?_) <;> omega) | ((repeat' refine And.intro ?_ ?_) <;> first | omega | rfl | exact Nat.le_refl _ | exact Nat.le_of_ble_eq_true rfl | exact bytesF_one _) | (simp_all; done) | (simp_all; omega))) ?_
      | refine r_obj rfl rfl (by (first | omega | exact Nat.le_of_ble_eq_true rfl | (simp only [wrap_u8, IntKind.wrap_i64, IntKind.wrap_i32, wrap_u32', wrap_u64', InI]; (repeat' refine And.intro ?_ ?_) <;> omega) | ((repeat' refine And.intro ?_ ?_) <;> first | omega | rfl | exact Nat.le_refl _ | exact Nat.le_of_ble_eq_true rfl | exact bytesF_one _) | (simp_all; done) | (simp_all; omega))) ?_ | refine r_sto rfl (by (first | omega | exact Nat.le_of_ble_eq_true rfl | (simp only [wrap_u8, IntKind.wrap_i64, IntKind.wrap_i32, wrap_u32', wrap_u64', InI]; (repeat' refine And.intro ?_ ?_) <;> omega) | ((repeat' refine And.intro ?_ ?_) <;> first | omega | rfl | exact Nat.le_refl _ | exact Nat.le_of_ble_eq_true rfl | exact bytesF_one _) | (simp_all; done) | (simp_all; omega))) ?_ | refine r_gobj rfl rfl rfl rfl (by (first | omega | exact Nat.le_of_ble_eq_true rfl | (simp only [wrap_u8, IntKind.wrap_i64, IntKind.wrap_i32, wrap_u32', wrap_u64', InI]; (repeat' refine And.intro ?_ ?_) <;> omega) | ((repeat' refine And.intro ?_ ?_) <;> first | omega | rfl | exact Nat.le_refl _ | exact Nat.le_of_ble_eq_true rfl | exact bytesF_one _) | (simp_all; done) | (simp_all; omega))) ?_
      | refine e_hit rfl ?_ | refine e_miss rfl ?_
      | refine ⟨by kernel_rfl, ?_⟩ | refine x_end rfl ?_ | ((with_reducible refine c_grd ?_); (fail_if_success (refine c_lit true rfl rfl rfl ?_)); (fail_if_success (refine c_lit false rfl rfl rfl ?_)); refine c_split rfl rfl (fun _ => ?_) (fun _ => ?_)))
    refine ⟨y.take (y.length - 1), ⟨(hst ()).trans (g1 ()), by simp; omega⟩, by simp; omega, ⟨rfl, ?_, ?_, rfl, trivial⟩, ⟨rfl, trivial⟩, rfl, by rw [hX]; intro k hk; cases hk⟩
    · exact congrArg D.s (by rw [show ((y.length : Int) - 1).toNat = y.length - 1 by omega]; rfl)
    · exact congrArg (D.i .i64) (by rw [List.length_take]; omega)

end Go.Proofs.YtinjdlckhmkmaaaDoor.Flow

/- DEC: the program: closures over a place in a text. -/
namespace Go.Proofs.YtinjdlckhmkmaaaDoor.Flow
open Go

end Go.Proofs.YtinjdlckhmkmaaaDoor.Flow

/- DEC: the program: the number that a text begins with. -/
namespace Go.Proofs.YtinjdlckhmkmaaaDoor.Flow
open Go

end Go.Proofs.YtinjdlckhmkmaaaDoor.Flow

/- DEC: the program's Parse. -/
namespace Go.Proofs.YtinjdlckhmkmaaaDoor.Flow
open Go

section
variable {s : List UInt8} {i : Nat}
theorem whN_pos (h : sat s i 48) : whN s i = ([48], i + 1) := if_pos h
theorem whN_neg (h : ¬ sat s i 48) : whN s i = (dgT s i, i + (dgT s i).length) := if_neg h
theorem whN_le (h : i ≤ s.length) : (whN s i).2 ≤ s.length := by
  have := dgT_len s i
  unfold whN
  split
  · rename_i h1
    have := h1.1
    dsimp only
    omega
  · dsimp only
    omega
theorem frN_pos (h : sat s i 46) (h2 : ¬ dgT s (i + 1) = []) : frN s i = (dgT s (i + 1), i + 1 + (dgT s (i + 1)).length) := if_pos ⟨h, h2⟩
theorem frN_neg (h : ¬ sat s i 46 ∨ dgT s (i + 1) = []) : frN s i = ([], i) := if_neg fun h2 => by
  rcases h with h | h
  · exact h h2.1
  · exact h2.2 h
theorem frN_le (h : i ≤ s.length) : (frN s i).2 ≤ s.length := by
  have := dgT_len s (i + 1)
  unfold frN
  split
  · rename_i h1
    have := h1.1.1
    dsimp only
    omega
  · exact h
theorem sgN_le (h : i ≤ s.length) : sgN s i ≤ s.length := by
  unfold sgN
  split
  · rename_i h1
    rcases h1 with h1 | h1
    · exact h1.1
    · exact h1.1
  · exact h
theorem exN_neg {pw : List UInt8 → Int} (h : ¬ (sat s i 101 ∨ sat s i 69) ∨ dgT s (sgN s (i + 1)) = []) : exN pw s i = (0, i) := if_neg fun h2 => by
  rcases h with h | h
  · exact h h2.1
  · exact h2.2 h
theorem exN_pos {pw : List UInt8 → Int} (h : sat s i 101 ∨ sat s i 69) (h2 : ¬ dgT s (sgN s (i + 1)) = []) : exN pw s i = (if sat s (i + 1) 45 then -pw (dgT s (sgN s (i + 1))) else pw (dgT s (sgN s (i + 1))), sgN s (i + 1) + (dgT s (sgN s (i + 1))).length) := if_pos ⟨h, h2⟩
theorem sg0_le : sg0 s ≤ s.length := by
  unfold sg0
  split
  · rename_i h
    exact h.1
  · exact Nat.zero_le _
end

end Go.Proofs.YtinjdlckhmkmaaaDoor.Flow

/- DEC: the reference's Parse. -/
namespace Go.Proofs.YtinjdlckhmkmaaaDoor.Flow
open Go

end Go.Proofs.YtinjdlckhmkmaaaDoor.Flow

/- TYPED: which value a field is, in plain words. -/
namespace Go.Proofs.YtinjdlckhmkmaaaDoor.Flow
open Go

/-! ### A decimal that is read is right -/

/-! ### A text that is wholly a number has no letters but e -/

def asc (s : List UInt8) (a b : Nat) : Prop := ∀ i, a ≤ i → i < b → i < s.length → at' s i < 128

/-- Is all of a text a number? -/
def isNum (s : List UInt8) : Bool := decide ((parseG powP s).2.2 = 0 ∧ (parseG powP s).2.1 = s.length)
/-- Has a text the point, or the letter of the exponent? -/
def dotE (s : List UInt8) : Bool := s.any fun c => c == 46 || c == 101 || c == 69

end Go.Proofs.YtinjdlckhmkmaaaDoor.Flow

/- TYPED: keys, in plain words. -/
namespace Go.Proofs.YtinjdlckhmkmaaaDoor.Flow
open Go

/-- A float's parts: what it counts, and the unit. -/
def mS (b : Nat) : Nat := if b / 8388608 % 256 = 0 then b % 8388608 else b % 8388608 + 8388608
def eS (b : Nat) : Int := if b / 8388608 % 256 = 0 then -149 else ((b / 8388608 % 256 : Nat) : Int) - 150
/-- The whole number that a float is. -/
def singleF (b : Nat) : Option Int :=
  if b / 8388608 % 256 = 255 then none
  else match whF (hv (mS b) (eS b)) with
    | none => none
    | some n => some (if 2147483648 ≤ b then -(n : Int) else n)

/-- The double that a float is; n counts the places of a fraction that is below all. -/
def wideF (b n : Nat) : Nat :=
  (if 2147483648 ≤ b then 9223372036854775808 else 0) +
    (if b / 8388608 % 256 = 0 then (if b % 8388608 = 0 then 0 else (n + 873) * 4503599627370496 + (b % 8388608 * 2 ^ (53 - n) - 4503599627370496))
     else (b / 8388608 % 256 + 896) * 4503599627370496 + b % 8388608 * 536870912)

/-- May a value be? (The text is valid or not: b.) -/
def valR (kind : Int) (b : Bool) (bits : Nat) : Bool :=
  if kind = 1 then b else if kind = 2 then decide (bits < 4294967296) else if kind = 7 then decide (bits < 2) else decide (1 ≤ kind ∧ kind ≤ 7)

/-- A number of 64 bits read as one with a sign. -/
def i64F (bits : Nat) : Int := if 9223372036854775808 ≤ bits then (bits : Int) - 18446744073709551616 else bits

/-- What meets a value. -/
def keyF (kind : Int) (s : List UInt8) (valid : Bool) (bits : Nat) : List UInt8 × Bool :=
  if valR kind valid bits = false then ([], false)
  else if kind = 1 then (s, true)
  else if kind = 5 then (Lib.decDigits bits, true)
  else if kind = 7 then ((if bits = 1 then [116, 114, 117, 101] else [102, 97, 108, 115, 101]), true)
  else if kind = 2 then wText (singleF bits)
  else if kind = 3 then wText (wholeF bits)
  else (Lib.itoa (i64F bits), true)

end Go.Proofs.YtinjdlckhmkmaaaDoor.Flow

/- LIBS: numbers as texts, by the table of powers of ten. -/
namespace Go.Proofs.YtinjdlckhmkmaaaDoor.Flow
open Go

/-- The table of powers of ten lies as it is told. -/
theorem pow10_is {S : Cells} {w : World} (hg : GOk S w) : Lib.TabIs Tryd.prog w "internal/strconv.uint64pow10" .u64 Lib.pow10Tab := by
  have hn : Tryd.prog.globalNamed "internal/strconv.uint64pow10" = some 3 := by kernel_rfl
  have h1 := hg.rel 3
  have h2 := (hg.len 3 20 rfl).2
  have h3 : ∀ j, j < 20 → w.cell? ⟨3, j, none⟩ = some (.int .u64 (powZ j)) := by
    cases h1 with
    | rn _ _ _ _ _ _ h => exact fun j hj => (h j hj).2
  have h0 := h3 0 (by decide)
  unfold Lib.TabIs
  simp only [World.var?, hn, Option.bind_some]
  cases hh : w.heap[3]? with
  | none => simp [World.cell?, hh] at h0
  | some o =>
    cases o with
    | cells cs t fr =>
      simp only [Option.some.injEq]
      have h4 : ∀ j, j < 20 → cs[j]? = some (.int .u64 (powZ j)) := fun j hj => by
        have := h3 j hj
        simpa [World.cell?, hh] using this
      have h5 : cs[20]? = none := by simpa [World.cell?, hh] using h2
      apply Array.ext_getElem?
      intro j
      by_cases hj : j < 20
      · rw [h4 j hj]
        simp [Lib.pow10Tab, hj, powZ]
      · have : cs.size ≤ 20 := by simpa using h5
        rw [Array.getElem?_eq_none (by omega), Array.getElem?_eq_none (by simp [Lib.pow10Tab]; omega)]
    | _ => simp [World.cell?, hh] at h0

theorem itoa_ctr (n : Int) (h0 : -9223372036854775808 ≤ n) (h1 : n ≤ 9223372036854775807) : Ctr Tryd.prog 46 [.i .i64 n] (.s (Lib.itoa n)) := by
  intro w S vs hv hg hn hr
  have h := hr 0 (by simp)
  rw [one_of hn]
  generalize vs.getD 0 undef = v0 at *
  cases h
  refine (Tryd.strconv_Itoa n h0 h1 w (pow10_is hg)).mono ?_
  rintro e w' ⟨rfl, k, os, rfl⟩
  exact ⟨_, S, rfl, .s _ _, hist_below hv hg (below_grown w k os)⟩

end Go.Proofs.YtinjdlckhmkmaaaDoor.Flow

/- DEC: a decimal's text: the two functions. -/
namespace Go.Proofs.YtinjdlckhmkmaaaDoor.Flow
open Go

theorem rtext_bad (neg : Bool) (s : List UInt8) (e : Int) (hs : s.length ≤ 1048576) (h : ¬ RightP neg s e) : Ctr Tryd.prog 57 [dcD neg s e] (.s []) := by
  have c1 := rright_ctr neg s e (by omega)
  rw [rightB_not h] at c1
  refine r_fun Tryd.func57 rfl Tryd.ntmps57 Tryd.results57 rfl rfl fun X hL hX => ?_
  repeat' (first
    | with_reducible refine t_seq ?_ | with_reducible refine t_region ?_ | with_reducible refine c_nil ?_ | with_reducible refine n_then ?_
    | with_reducible refine t_ret ?_ | with_reducible refine t_skip ?_ | with_reducible refine t_exit ?_ | with_reducible refine t_block ?_
    | with_reducible refine n_block ?_ | with_reducible refine e_then ?_ | with_reducible refine x_then ?_ | with_reducible refine x_block ?_ | with_reducible refine t_draw ?_
    | refine r_val rfl rfl True.intro ?_ | refine r_gskip rfl rfl rfl ?_ | refine r_gskip2 rfl rfl rfl ?_ | refine r_gval rfl rfl rfl rfl True.intro ?_
    | refine t_true rfl ?_ | refine t_false rfl ?_
    | ((first | refine t_cond_d rfl (fun _ => ?_) (fun _ => ?_) | refine t_cond_i rfl (fun _ => ?_) (fun _ => ?_) | refine t_cond_j rfl (fun _ => ?_) (fun _ => ?_) | refine t_cond_s rfl (fun _ => ?_) (fun _ => ?_) | refine t_cond_n rfl (fun _ => ?_) (fun _ => ?_) | refine t_cond rfl (fun _ => ?_) (fun _ => ?_) | refine c_split_d rfl rfl (fun _ => ?_) (fun _ => ?_) | refine c_split_i rfl rfl (fun _ => ?_) (fun _ => ?_) | refine c_split_j rfl rfl (fun _ => ?_) (fun _ => ?_) | refine c_split_s rfl rfl (fun _ => ?_) (fun _ => ?_) | refine c_split_n rfl rfl (fun _ => ?_) (fun _ => ?_)) <;> try (first | contradiction | (exfalso; omega)))
    | refine r_val rfl rfl (by (first | omega | exact Nat.le_of_ble_eq_true rfl | (simp only [wrap_u8, IntKind.wrap_i64, IntKind.wrap_i32, wrap_u32', wrap_u64', InI]; (repeat' refine And.intro ?_ ?_) <;> omega) | ((repeat' refine And.intro ?_ ?_) <;> first | omega | rfl | exact Nat.le_refl _ | exact Nat.le_of_ble_eq_true rfl | exact bytesF_one _) | (simp_all; done) | (simp_all; omega))) ?_ | refine r_gval rfl rfl rfl rfl (by (first | omega | exact Nat.le_of_ble_eq_true rfl | (simp only [wrap_u8, IntKind.wrap_i64, IntKind.wrap_i32, wrap_u32', wrap_u64', InI]; (repeat' refine And.intro ?_ ?_) <;> omega) | ((repeat' refine And.intro ?_ ?_) <;> first | omega | rfl | exact Nat.le_refl _ | exact Nat.le_of_ble_eq_true rfl | exact bytesF_one _) | (simp_all; done) | (simp_all; omega))) ?_
    | refine r_obj rfl rfl (by (first | omega | exact Nat.le_of_ble_eq_true rfl | (simp only [wrap_u8, IntKind.wrap_i64, IntKind.wrap_i32, wrap_u32', wrap_u64', InI]; (repeat' refine And.intro ?_ ?_) <;> omega) | ((repeat' refine And.intro ?_ ?_) <;> first | omega | rfl | exact Nat.le_refl _ | exact Nat.le_of_ble_eq_true rfl | exact bytesF_one _) | (simp_all; done) | (simp_all; omega))) ?_ | refine r_sto rfl (by (first | omega | exact Nat.le_of_ble_eq_true rfl | (simp only [wrap_u8, IntKind.wrap_i64, IntKind.wrap_i32, wrap_u32', wrap_u64', InI]; (repeat' refine And.intro ?_ ?_) <;> omega) | ((repeat' refine And.intro ?_ ?_) <;> first | omega | rfl | exact Nat.le_refl _ | exact Nat.le_of_ble_eq_true rfl | exact bytesF_one _) | (simp_all; done) | (simp_all; omega))) ?_ | refine r_gobj rfl rfl rfl rfl (by (first | omega | exact Nat.le_of_ble_eq_true rfl | (simp only [wrap_u8, IntKind.wrap_i64, IntKind.wrap_i32, wrap_u32', wrap_u64', InI]; (repeat' refine And.intro ?_ ?_) <;> omega) | ((repeat' refine And.intro ?_ ?_) <;> first | omega | rfl | exact Nat.le_refl _ | exact Nat.le_of_ble_eq_true rfl | exact bytesF_one _) | (simp_all; done) | (simp_all; omega))) ?_
    | refine e_hit rfl ?_ | refine e_miss rfl ?_
    | refine ⟨by kernel_rfl, ?_⟩ | refine x_end rfl ?_ | refine r_call (f := 75) rfl rfl Tryd.call75 rfl c1 ?_ | ((with_reducible refine c_grd ?_); (fail_if_success (refine c_lit true rfl rfl rfl ?_)); (fail_if_success (refine c_lit false rfl rfl rfl ?_)); refine c_split rfl rfl (fun _ => ?_) (fun _ => ?_)))
  rfl

section
variable {s : List UInt8} {e : Int}
theorem textU_1 (h : 0 ≤ e) (h2 : s.length + e ≤ 21) : textU s e = s ++ zs e.toNat := if_pos ⟨h, h2⟩
theorem textU_2 (h : ¬ (0 ≤ e ∧ s.length + e ≤ 21)) (h2 : 1 ≤ s.length + e) (h3 : s.length + e < s.length) : textU s e = s.take (s.length + e).toNat ++ [46] ++ s.drop (s.length + e).toNat := by
  unfold textU
  rw [if_neg h, if_pos ⟨h2, h3⟩]
theorem textU_3 (h : ¬ (0 ≤ e ∧ s.length + e ≤ 21)) (h2 : -6 ≤ s.length + e) (h3 : s.length + e ≤ 0) : textU s e = [48, 46] ++ zs (-(s.length + e)).toNat ++ s := by
  unfold textU
  rw [if_neg h, if_neg (by omega), if_pos ⟨h2, h3⟩]
theorem textU_4 (h : ¬ (0 ≤ e ∧ s.length + e ≤ 21)) (h2 : ¬ (1 ≤ s.length + e ∧ s.length + e < s.length)) (h3 : ¬ (-6 ≤ s.length + e ∧ s.length + e ≤ 0)) : textU s e = s.take 1 ++ (if 1 < s.length then [46] ++ s.drop 1 else []) ++ [101] ++ Lib.itoa (s.length + e - 1) := by
  unfold textU
  rw [if_neg h, if_neg h2, if_neg h3]
end

set_option maxHeartbeats 2000000 in
theorem rtext_ok (neg : Bool) (s : List UInt8) (e : Int) (h : RightP neg s e) (h0 : ¬ s.length = 0) : Ctr Tryd.prog 57 [dcD neg s e] (.s ((if neg = true then [45] else []) ++ textU s e)) := by
  obtain ⟨b1, b2, b3, b4⟩ := h.bounds
  have c1 := rright_ctr neg s e (by omega)
  rw [rightB_iff.2 h] at c1
  have c2 := fun h => zeros_ctr e h (by omega)
  have c3 := fun h => zeros_ctr (-(s.length + e)) h (by omega)
  have c4 := rnum_ctr (s.length + e - 1) (by omega) (by omega)
  have l4 := itoa_len (s.length + e - 1) (by omega) (by omega)
  have u1 := fun h h2 => textU_1 (s := s) (e := e) h h2
  have u2 := fun h h2 h3 => textU_2 (s := s) (e := e) h h2 h3
  have u3 := fun h h2 h3 => textU_3 (s := s) (e := e) h h2 h3
  have u4 := fun h h2 h3 => textU_4 (s := s) (e := e) h h2 h3
  have lz : ∀ n : Nat, (zs n).length = n := fun n => by simp
  generalize textU s e = U at *
  generalize Lib.itoa (s.length + e - 1) = I at *
  clear h
  refine r_fun Tryd.func57 rfl Tryd.ntmps57 Tryd.results57 rfl rfl fun X hL hX => ?_
  cases neg with
  | false =>
    repeat' (first
      | with_reducible refine t_seq ?_ | with_reducible refine t_region ?_ | with_reducible refine c_nil ?_ | with_reducible refine n_then ?_
      | with_reducible refine t_ret ?_ | with_reducible refine t_skip ?_ | with_reducible refine t_exit ?_ | with_reducible refine t_block ?_
      | with_reducible refine n_block ?_ | with_reducible refine e_then ?_ | with_reducible refine x_then ?_ | with_reducible refine x_block ?_ | with_reducible refine t_draw ?_
      | refine r_val rfl rfl True.intro ?_ | refine r_gskip rfl rfl rfl ?_ | refine r_gskip2 rfl rfl rfl ?_ | refine r_gval rfl rfl rfl rfl True.intro ?_
      | refine t_true rfl ?_ | refine t_false rfl ?_
      | ((first | refine t_cond_d rfl (fun _ => ?_) (fun _ => ?_) | refine t_cond_i rfl (fun _ => ?_) (fun _ => ?_) | refine t_cond_j rfl (fun _ => ?_) (fun _ => ?_) | refine t_cond_s rfl (fun _ => ?_) (fun _ => ?_) | refine t_cond_n rfl (fun _ => ?_) (fun _ => ?_) | refine t_cond rfl (fun _ => ?_) (fun _ => ?_) | refine c_split_d rfl rfl (fun _ => ?_) (fun _ => ?_) | refine c_split_i rfl rfl (fun _ => ?_) (fun _ => ?_) | refine c_split_j rfl rfl (fun _ => ?_) (fun _ => ?_) | refine c_split_s rfl rfl (fun _ => ?_) (fun _ => ?_) | refine c_split_n rfl rfl (fun _ => ?_) (fun _ => ?_)) <;> try (first | (rename_i hz; exact Bool.noConfusion (show true = false from hz)) | (rename_i hz; exact Bool.noConfusion (show false = true from hz)) | (exfalso; omega)))
      | refine r_val rfl rfl (by (first | (simp only [List.length_append, List.length_drop, List.length_take, lz, Array.length_toList, List.size_toArray, List.length_cons, List.length_nil]; omega) | omega | exact Nat.le_of_ble_eq_true rfl | (simp only [wrap_u8, IntKind.wrap_i64, IntKind.wrap_i32, wrap_u32', wrap_u64', InI]; (repeat' refine And.intro ?_ ?_) <;> omega) | ((repeat' refine And.intro ?_ ?_) <;> first | omega | rfl | exact Nat.le_refl _ | exact Nat.le_of_ble_eq_true rfl | exact bytesF_one _) | (simp_all; done) | (simp_all; omega))) ?_ | refine r_gval rfl rfl rfl rfl (by (first | (simp only [List.length_append, List.length_drop, List.length_take, lz, Array.length_toList, List.size_toArray, List.length_cons, List.length_nil]; omega) | omega | exact Nat.le_of_ble_eq_true rfl | (simp only [wrap_u8, IntKind.wrap_i64, IntKind.wrap_i32, wrap_u32', wrap_u64', InI]; (repeat' refine And.intro ?_ ?_) <;> omega) | ((repeat' refine And.intro ?_ ?_) <;> first | omega | rfl | exact Nat.le_refl _ | exact Nat.le_of_ble_eq_true rfl | exact bytesF_one _) | (simp_all; done) | (simp_all; omega))) ?_
      | refine r_obj rfl rfl (by (first | (simp only [List.length_append, List.length_drop, List.length_take, lz, Array.length_toList, List.size_toArray, List.length_cons, List.length_nil]; omega) | omega | exact Nat.le_of_ble_eq_true rfl | (simp only [wrap_u8, IntKind.wrap_i64, IntKind.wrap_i32, wrap_u32', wrap_u64', InI]; (repeat' refine And.intro ?_ ?_) <;> omega) | ((repeat' refine And.intro ?_ ?_) <;> first | omega | rfl | exact Nat.le_refl _ | exact Nat.le_of_ble_eq_true rfl | exact bytesF_one _) | (simp_all; done) | (simp_all; omega))) ?_ | refine r_sto rfl (by (first | (simp only [List.length_append, List.length_drop, List.length_take, lz, Array.length_toList, List.size_toArray, List.length_cons, List.length_nil]; omega) | omega | exact Nat.le_of_ble_eq_true rfl | (simp only [wrap_u8, IntKind.wrap_i64, IntKind.wrap_i32, wrap_u32', wrap_u64', InI]; (repeat' refine And.intro ?_ ?_) <;> omega) | ((repeat' refine And.intro ?_ ?_) <;> first | omega | rfl | exact Nat.le_refl _ | exact Nat.le_of_ble_eq_true rfl | exact bytesF_one _) | (simp_all; done) | (simp_all; omega))) ?_ | refine r_gobj rfl rfl rfl rfl (by (first | (simp only [List.length_append, List.length_drop, List.length_take, lz, Array.length_toList, List.size_toArray, List.length_cons, List.length_nil]; omega) | omega | exact Nat.le_of_ble_eq_true rfl | (simp only [wrap_u8, IntKind.wrap_i64, IntKind.wrap_i32, wrap_u32', wrap_u64', InI]; (repeat' refine And.intro ?_ ?_) <;> omega) | ((repeat' refine And.intro ?_ ?_) <;> first | omega | rfl | exact Nat.le_refl _ | exact Nat.le_of_ble_eq_true rfl | exact bytesF_one _) | (simp_all; done) | (simp_all; omega))) ?_
      | refine e_hit rfl ?_ | refine e_miss rfl ?_
      | refine ⟨by kernel_rfl, ?_⟩ | refine x_end rfl ?_ | refine r_call (f := 75) rfl rfl Tryd.call75 rfl c1 ?_ | refine r_call (f := 76) rfl rfl Tryd.call76 rfl (c2 (by omega)) ?_ | refine r_call (f := 76) rfl rfl Tryd.call76 rfl (c3 (by omega)) ?_ | refine r_call (f := 77) rfl rfl Tryd.call77 rfl c4 ?_ | ((with_reducible refine c_grd ?_); (fail_if_success (refine c_lit true rfl rfl rfl ?_)); (fail_if_success (refine c_lit false rfl rfl rfl ?_)); refine c_split rfl rfl (fun _ => ?_) (fun _ => ?_)))
    · rw [u1 (by omega) (by omega)]
      exact congrArg D.s (by simp)
    · rw [u4 (by omega) (by omega) (by omega), if_neg (show ¬ 1 < s.length by omega), List.take_of_length_le (show s.length ≤ 1 by omega)]
      exact congrArg D.s (by simp)
    · rw [u4 (by omega) (by omega) (by omega), if_pos (show 1 < s.length by omega)]
      exact congrArg D.s (by simp)
    · rw [u2 (by omega) (by omega) (by omega)]
      exact congrArg D.s (by simp)
    · rw [u3 (by omega) (by omega) (by omega)]
      exact congrArg D.s (by simp)
    · rw [u4 (by omega) (by omega) (by omega), if_neg (show ¬ 1 < s.length by omega), List.take_of_length_le (show s.length ≤ 1 by omega)]
      exact congrArg D.s (by simp)
    · rw [u4 (by omega) (by omega) (by omega), if_pos (show 1 < s.length by omega)]
      exact congrArg D.s (by simp)
  | true =>
    repeat' (first
      | with_reducible refine t_seq ?_ | with_reducible refine t_region ?_ | with_reducible refine c_nil ?_ | with_reducible refine n_then ?_
      | with_reducible refine t_ret ?_ | with_reducible refine t_skip ?_ | with_reducible refine t_exit ?_ | with_reducible refine t_block ?_
      | with_reducible refine n_block ?_ | with_reducible refine e_then ?_ | with_reducible refine x_then ?_ | with_reducible refine x_block ?_ | with_reducible refine t_draw ?_
      | refine r_val rfl rfl True.intro ?_ | refine r_gskip rfl rfl rfl ?_ | refine r_gskip2 rfl rfl rfl ?_ | refine r_gval rfl rfl rfl rfl True.intro ?_
      | refine t_true rfl ?_ | refine t_false rfl ?_
      | ((first | refine t_cond_d rfl (fun _ => ?_) (fun _ => ?_) | refine t_cond_i rfl (fun _ => ?_) (fun _ => ?_) | refine t_cond_j rfl (fun _ => ?_) (fun _ => ?_) | refine t_cond_s rfl (fun _ => ?_) (fun _ => ?_) | refine t_cond_n rfl (fun _ => ?_) (fun _ => ?_) | refine t_cond rfl (fun _ => ?_) (fun _ => ?_) | refine c_split_d rfl rfl (fun _ => ?_) (fun _ => ?_) | refine c_split_i rfl rfl (fun _ => ?_) (fun _ => ?_) | refine c_split_j rfl rfl (fun _ => ?_) (fun _ => ?_) | refine c_split_s rfl rfl (fun _ => ?_) (fun _ => ?_) | refine c_split_n rfl rfl (fun _ => ?_) (fun _ => ?_)) <;> try (first | (rename_i hz; exact Bool.noConfusion (show true = false from hz)) | (rename_i hz; exact Bool.noConfusion (show false = true from hz)) | (exfalso; omega)))
      | refine r_val rfl rfl (by (first | (simp only [List.length_append, List.length_drop, List.length_take, lz, Array.length_toList, List.size_toArray, List.length_cons, List.length_nil]; omega) | omega | exact Nat.le_of_ble_eq_true rfl | (simp only [wrap_u8, IntKind.wrap_i64, IntKind.wrap_i32, wrap_u32', wrap_u64', InI]; (repeat' refine And.intro ?_ ?_) <;> omega) | ((repeat' refine And.intro ?_ ?_) <;> first | omega | rfl | exact Nat.le_refl _ | exact Nat.le_of_ble_eq_true rfl | exact bytesF_one _) | (simp_all; done) | (simp_all; omega))) ?_ | refine r_gval rfl rfl rfl rfl (by (first | (simp only [List.length_append, List.length_drop, List.length_take, lz, Array.length_toList, List.size_toArray, List.length_cons, List.length_nil]; omega) | omega | exact Nat.le_of_ble_eq_true rfl | (simp only [wrap_u8, IntKind.wrap_i64, IntKind.wrap_i32, wrap_u32', wrap_u64', InI]; (repeat' refine And.intro ?_ ?_) <;> omega) | ((repeat' refine And.intro ?_ ?_) <;> first | omega | rfl | exact Nat.le_refl _ | exact Nat.le_of_ble_eq_true rfl | exact bytesF_one _) | (simp_all; done) | (simp_all; omega))) ?_
      | refine r_obj rfl rfl (by (first | (simp only [List.length_append, List.length_drop, List.length_take, lz, Array.length_toList, List.size_toArray, List.length_cons, List.length_nil]; omega) | omega | exact Nat.le_of_ble_eq_true rfl | (simp only [wrap_u8, IntKind.wrap_i64, IntKind.wrap_i32, wrap_u32', wrap_u64', InI]; (repeat' refine And.intro ?_ ?_) <;> omega) | ((repeat' refine And.intro ?_ ?_) <;> first | omega | rfl | exact Nat.le_refl _ | exact Nat.le_of_ble_eq_true rfl | exact bytesF_one _) | (simp_all; done) | (simp_all; omega))) ?_ | refine r_sto rfl (by (first | (simp only [List.length_append, List.length_drop, List.length_take, lz, Array.length_toList, List.size_toArray, List.length_cons, List.length_nil]; omega) | omega | exact Nat.le_of_ble_eq_true rfl | (simp only [wrap_u8, IntKind.wrap_i64, IntKind.wrap_i32, wrap_u32', wrap_u64', InI]; (repeat' refine And.intro ?_ ?_) <;> omega) | ((repeat' refine And.intro ?_ ?_) <;> first | omega | rfl | exact Nat.le_refl _ | exact Nat.le_of_ble_eq_true rfl | exact bytesF_one _) | (simp_all; done) | (simp_all; omega))) ?_ | refine r_gobj rfl rfl rfl rfl (by (first | (simp only [List.length_append, List.length_drop, List.length_take, lz, Array.length_toList, List.size_toArray, List.length_cons, List.length_nil]; omega) | omega | exact Nat.le_of_ble_eq_true rfl | (simp only [wrap_u8, IntKind.wrap_i64, IntKind.wrap_i32, wrap_u32', wrap_u64', InI]; (repeat' refine And.intro ?_ ?_) <;> omega) | ((repeat' refine And.intro ?_ ?_) <;> first | omega | rfl | exact Nat.le_refl _ | exact Nat.le_of_ble_eq_true rfl | exact bytesF_one _) | (simp_all; done) | (simp_all; omega))) ?_
      | refine e_hit rfl ?_ | refine e_miss rfl ?_
      | refine ⟨by kernel_rfl, ?_⟩ | refine x_end rfl ?_ | refine r_call (f := 75) rfl rfl Tryd.call75 rfl c1 ?_ | refine r_call (f := 76) rfl rfl Tryd.call76 rfl (c2 (by omega)) ?_ | refine r_call (f := 76) rfl rfl Tryd.call76 rfl (c3 (by omega)) ?_ | refine r_call (f := 77) rfl rfl Tryd.call77 rfl c4 ?_ | ((with_reducible refine c_grd ?_); (fail_if_success (refine c_lit true rfl rfl rfl ?_)); (fail_if_success (refine c_lit false rfl rfl rfl ?_)); refine c_split rfl rfl (fun _ => ?_) (fun _ => ?_)))
    · rw [u1 (by omega) (by omega)]
      exact congrArg D.s (by simp)
    · rw [u4 (by omega) (by omega) (by omega), if_neg (show ¬ 1 < s.length by omega), List.take_of_length_le (show s.length ≤ 1 by omega)]
      exact congrArg D.s (by simp)
    · rw [u4 (by omega) (by omega) (by omega), if_pos (show 1 < s.length by omega)]
      exact congrArg D.s (by simp)
    · rw [u2 (by omega) (by omega) (by omega)]
      exact congrArg D.s (by simp)
    · rw [u3 (by omega) (by omega) (by omega)]
      exact congrArg D.s (by simp)
    · rw [u4 (by omega) (by omega) (by omega), if_neg (show ¬ 1 < s.length by omega), List.take_of_length_le (show s.length ≤ 1 by omega)]
      exact congrArg D.s (by simp)
    · rw [u4 (by omega) (by omega) (by omega), if_pos (show 1 < s.length by omega)]
      exact congrArg D.s (by simp)

end Go.Proofs.YtinjdlckhmkmaaaDoor.Flow

/- DEC: a right decimal's text, with a space and anything behind it, is read as it was. -/
namespace Go.Proofs.YtinjdlckhmkmaaaDoor.Flow
open Go

section
variable {x r ds : List UInt8} {a : UInt8} {i : Nat}

end

/-- The sign ahead of digits. -/
abbrev sgL (neg : Bool) : List UInt8 := if neg = true then [45] else []

end Go.Proofs.YtinjdlckhmkmaaaDoor.Flow

/- DEC: the program: a number times a power of ten. -/
namespace Go.Proofs.YtinjdlckhmkmaaaDoor.Flow
open Go

theorem itoa_abs (n : Int) : (n < 0 → Lib.itoa n = 45 :: Lib.decDigits n.natAbs) ∧ (¬ n < 0 → Lib.itoa n = Lib.decDigits n.natAbs) := by
  unfold Lib.itoa
  constructor
  · intro h
    rw [if_pos h]
  · intro h
    rw [if_neg h, show n.toNat = n.natAbs by omega]

end Go.Proofs.YtinjdlckhmkmaaaDoor.Flow

/- UTF: the program's reader: a byte, four digits. -/
namespace Go.Proofs.YtinjdlckhmkmaaaDoor.Flow
open Go

/-- A digit's value; -1: none. -/
def hexF (c : Int) : Int := if 48 ≤ c ∧ c ≤ 57 then c - 48 else if 97 ≤ c ∧ c ≤ 102 then c - 87 else if 65 ≤ c ∧ c ≤ 70 then c - 55 else -1

/-- The reader's cells: the text, the place, what came, what is wrong. -/
def rd (s : List UInt8) (i : Int) (o : List UInt8) (e : Int) : List D := [.s s, .i .i64 i, .gs 200 1 o.length (bytesF o), .i .i64 e]
def rdl (s : List UInt8) (i : Int) (o : List UInt8) (e : Int) : Ow := [(20, .var (rd s i o e)), (200, .row 5 1 o.length)]

/-- What is wrong, once more. -/
def failF (e c : Int) : Int := if e = 0 then c else e

/-- The next byte, the place behind, what is wrong. -/
def nextF (s : List UInt8) (i e : Int) : Int × Int × Int := if e = 0 then (if i < s.length then (at' s i, i + 1, 0) else (0, i, 2)) else (0, i, e)

def mustF (s : List UInt8) (i e c : Int) : Int × Int := ((nextF s i e).2.1, if (nextF s i e).1 = c then (nextF s i e).2.2 else failF (nextF s i e).2.2 3)

/-- So many digits: their number, the place behind, what is wrong. -/
def fourG (s : List UInt8) : Nat → Int → Int → Int × Int × Int
  | 0, n, i => (n, i, 0)
  | k + 1, n, i => if i < s.length then (if hexF (at' s i) < 0 then (0, i + 1, 3) else fourG s k (16 * n + hexF (at' s i)) (i + 1)) else (0, i, 2)

def fourF (s : List UInt8) (i e : Int) : Int × Int × Int := if e = 0 then fourG s 4 0 i else (0, i, e)

end Go.Proofs.YtinjdlckhmkmaaaDoor.Flow

/- UTF: the program's reader: four digits, a code point. -/
namespace Go.Proofs.YtinjdlckhmkmaaaDoor.Flow
open Go

section
variable {s : List UInt8} {k : Nat} {n i : Int}
theorem fourG_more (h : i < s.length) (h2 : ¬ hexF (at' s i) < 0) : fourG s (k + 1) n i = fourG s k (16 * n + hexF (at' s i)) (i + 1) := by
  rw [fourG, if_pos h, if_neg h2]
theorem fourG_form (h : i < s.length) (h2 : hexF (at' s i) < 0) : fourG s (k + 1) n i = (0, i + 1, 3) := by
  rw [fourG, if_pos h, if_pos h2]
theorem fourG_short (h : ¬ i < s.length) : fourG s (k + 1) n i = (0, i, 2) := by
  rw [fourG, if_neg h]
end

end Go.Proofs.YtinjdlckhmkmaaaDoor.Flow

/- UTF: a code point's bytes are appended. -/
namespace Go.Proofs.YtinjdlckhmkmaaaDoor.Flow
open Go

/-- A code point's bytes. -/
def utfB (n : Int) : List UInt8 :=
  if n < 128 then [by8 n] else if n < 2048 then [by8 (192 + n / 64), by8 (128 + n % 64)]
  else if n < 65536 then [by8 (224 + n / 4096), by8 (128 + n / 64 % 64), by8 (128 + n % 64)]
  else [by8 (240 + n / 262144), by8 (128 + n / 4096 % 64), by8 (128 + n / 64 % 64), by8 (128 + n % 64)]

theorem p6 : (2 : Int) ^ Int.toNat 6 = 64 := by decide
theorem p12 : (2 : Int) ^ Int.toNat 12 = 4096 := by decide
theorem p18 : (2 : Int) ^ Int.toNat 18 = 262144 := by decide

end Go.Proofs.YtinjdlckhmkmaaaDoor.Flow

/- UTF: the program's reader: a code point in one part or two, what is behind a backslash. -/
namespace Go.Proofs.YtinjdlckhmkmaaaDoor.Flow
open Go

/-- Two halves as one code point, as the program reckons it. -/
def pairW (n m : Int) : Int := IntKind.i32.wrap (IntKind.i32.wrap (IntKind.i32.wrap (65536 + IntKind.i32.wrap (IntKind.i32.wrap (n - 55296) * 2 ^ (10 : Int).toNat)) + m) - 56320)
def pairF (n m : Int) : Int := 65536 + 1024 * (n - 55296) + m - 56320
theorem pairW_eq (n m : Int) (h0 : 55296 ≤ n) (h1 : n ≤ 56319) (h2 : 0 ≤ m) (h3 : m < 65536) : pairW n m = pairF n m := by
  unfold pairW pairF
  have e : (2 : Int) ^ Int.toNat 10 = 1024 := by decide
  rw [e, wrap_i32 (n - 55296) (by omega) (by omega), wrap_i32 ((n - 55296) * 1024) (by omega) (by omega), wrap_i32 (65536 + (n - 55296) * 1024) (by omega) (by omega), wrap_i32 (65536 + (n - 55296) * 1024 + m) (by omega) (by omega), wrap_i32 _ (by omega) (by omega)]
  omega

/-- The second half, as the program reads it: its number, the place behind, what is wrong. -/
def lowP (s : List UInt8) (j : Int) : Int × Int × Int :=
  let a := mustF s j 0 92
  let b := mustF s a.1 a.2 117
  let y := fourF s b.1 b.2
  (y.1, y.2.1, if y.1 < 56320 ∨ 57343 < y.1 then failF y.2.2 3 else y.2.2)

/-- A code point: the place behind, what came, what is wrong. -/
def codeP (s : List UInt8) (i : Int) (o : List UInt8) : Int × List UInt8 × Int :=
  let x := fourG s 4 0 i
  if x.2.2 = 0 then
    if 56320 ≤ x.1 ∧ x.1 ≤ 57343 then (x.2.1, o, 3)
    else if 55296 ≤ x.1 ∧ x.1 ≤ 56319 then
      (if (lowP s x.2.1).2.2 = 0 then ((lowP s x.2.1).2.1, o ++ utfB (pairF x.1 (lowP s x.2.1).1), 0) else ((lowP s x.2.1).2.1, o, (lowP s x.2.1).2.2))
    else (x.2.1, o ++ utfB x.1, 0)
  else (x.2.1, o, x.2.2)

section
variable {s : List UInt8} {i j j1 j2 j3 n m e e1 e2 e3 : Int} {o : List UInt8}
theorem lowP_eq (h1 : mustF s j 0 92 = (j1, e1)) (h2 : mustF s j1 e1 117 = (j2, e2)) (h3 : fourF s j2 e2 = (m, j3, e3)) : lowP s j = (m, j3, if m < 56320 ∨ 57343 < m then failF e3 3 else e3) := by
  simp only [lowP, h1, h2, h3]
theorem codeP_bad (h : fourG s 4 0 i = (n, j, e)) (h2 : ¬ e = 0) : codeP s i o = (j, o, e) := by
  simp only [codeP, h]
  rw [if_neg h2]
theorem codeP_low (h : fourG s 4 0 i = (n, j, 0)) (h2 : 56320 ≤ n) (h3 : n ≤ 57343) : codeP s i o = (j, o, 3) := by
  simp only [codeP, h]
  rw [if_pos trivial, if_pos ⟨h2, h3⟩]
theorem codeP_one (h : fourG s 4 0 i = (n, j, 0)) (h2 : n < 55296 ∨ 57343 < n) : codeP s i o = (j, o ++ utfB n, 0) := by
  simp only [codeP, h]
  rw [if_pos trivial, if_neg (by omega), if_neg (by omega)]
theorem codeP_pair (h : fourG s 4 0 i = (n, j, 0)) (h2 : 55296 ≤ n) (h3 : n ≤ 56319) (h4 : lowP s j = (m, j3, 0)) : codeP s i o = (j3, o ++ utfB (pairF n m), 0) := by
  simp only [codeP, h]
  rw [if_pos trivial, if_neg (by omega), if_pos ⟨h2, h3⟩, h4]
  rfl
theorem codeP_half (h : fourG s 4 0 i = (n, j, 0)) (h2 : 55296 ≤ n) (h3 : n ≤ 56319) (h4 : lowP s j = (m, j3, e)) (h5 : ¬ e = 0) : codeP s i o = (j3, o, e) := by
  simp only [codeP, h]
  rw [if_pos trivial, if_neg (by omega), if_pos ⟨h2, h3⟩, h4]
  dsimp only
  rw [if_neg h5]
end

end Go.Proofs.YtinjdlckhmkmaaaDoor.Flow

/- UTF: which bytes are UTF-8; eight bytes at once. -/
namespace Go.Proofs.YtinjdlckhmkmaaaDoor.Flow
open Go

/-- Is the byte at a place from lo to hi? -/
def tlB (l : List UInt8) (k : Int) (lo hi : Int) : Bool := decide (k < l.length) && decide (lo ≤ at' l k) && decide (at' l k ≤ hi)
def loF (c : Int) : Int := if c = 224 then 160 else if c = 240 then 144 else 128
def hiF (c : Int) : Int := if c = 237 then 159 else if c = 244 then 143 else 191

/-- How many bytes the code point at the head has; 0: there is none. -/
def oneL (l : List UInt8) : Nat :=
  if at' l 0 < 128 then 1
  else if tlB l 1 (loF (at' l 0)) (hiF (at' l 0)) = false then 0
  else if 194 ≤ at' l 0 ∧ at' l 0 ≤ 223 then 2
  else if 224 ≤ at' l 0 ∧ at' l 0 ≤ 239 ∧ tlB l 2 128 191 = true then 3
  else if 240 ≤ at' l 0 ∧ at' l 0 ≤ 244 ∧ tlB l 2 128 191 = true ∧ tlB l 3 128 191 = true then 4
  else 0

def validN : Nat → List UInt8 → Bool
  | 0, _ => true
  | n + 1, l => if l.length = 0 then true else if oneL l = 0 then false else validN n (l.drop (oneL l))

def validL (l : List UInt8) : Bool := validN l.length l

theorem validN_ge : ∀ (n m : Nat) (l : List UInt8), l.length ≤ n → l.length ≤ m → validN n l = validN m l
  | 0, m, l, h, _ => by
    have : l.length = 0 := by omega
    cases m with
    | zero => rfl
    | succ m => simp [validN, this]
  | n + 1, 0, l, _, h => by
    have : l.length = 0 := by omega
    simp [validN, this]
  | n + 1, m + 1, l, h1, h2 => by
    unfold validN
    by_cases h0 : l.length = 0
    · simp [h0]
    · rw [if_neg h0, if_neg h0]
      by_cases ho : oneL l = 0
      · rw [if_pos ho, if_pos ho]
      · rw [if_neg ho, if_neg ho]
        exact validN_ge n m _ (by rw [List.length_drop]; omega) (by rw [List.length_drop]; omega)

theorem validL_nil {l : List UInt8} (h : l.length = 0) : validL l = true := by
  unfold validL
  rw [h]
  rfl
theorem validL_bad {l : List UInt8} (h : ¬ l.length = 0) (ho : oneL l = 0) : validL l = false := by
  unfold validL
  obtain ⟨n, hn⟩ : ∃ n, l.length = n + 1 := ⟨l.length - 1, by omega⟩
  rw [hn]
  unfold validN
  rw [if_neg h, if_pos ho]
theorem validL_step {l : List UInt8} (h : ¬ l.length = 0) (ho : ¬ oneL l = 0) : validL l = validL (l.drop (oneL l)) := by
  unfold validL
  obtain ⟨n, hn⟩ : ∃ n, l.length = n + 1 := ⟨l.length - 1, by omega⟩
  rw [hn]
  conv => lhs; unfold validN
  rw [if_neg h, if_neg ho]
  exact validN_ge _ _ _ (by rw [List.length_drop]; omega) (Nat.le_refl _)

theorem at_drop (l : List UInt8) (k j : Nat) : at' (l.drop k) j = at' l ((k + j : Nat) : Int) := by
  unfold at'
  simp only [Int.toNat_natCast]
  simp [List.getD_eq_getElem?_getD, List.getElem?_drop]

theorem valid_ascii : ∀ (k : Nat) (l : List UInt8), k ≤ l.length → (∀ j : Nat, j < k → at' l j < 128) → validL (l.drop k) = validL l
  | 0, l, _, _ => by simp
  | k + 1, l, h, ha => by
    have h0 := ha 0 (by omega)
    have ho : oneL l = 1 := by unfold oneL; rw [if_pos (by simpa using h0)]
    rw [validL_step (l := l) (by omega) (by omega), ho, ← valid_ascii k (l.drop 1) (by rw [List.length_drop]; omega) (fun j hj => by rw [at_drop]; exact ha (1 + j) (by omega)), List.drop_drop, Nat.add_comm 1 k]

/-! ### Eight bytes at once -/
def wordV (l : List UInt8) : Int := at' l 0 + 256 * at' l 1 + 65536 * at' l 2 + 16777216 * at' l 3 + 4294967296 * at' l 4 + 1099511627776 * at' l 5 + 281474976710656 * at' l 6 + 72057594037927936 * at' l 7

theorem wraps_u64U (n : Int) (h₀ : 0 ≤ n) (h₁ : n < 2 ^ 64) : IntKind.u64.wrap n = n := by rw [wrap_u64']; omega
theorem bits_or_commU (k : IntKind) (x y : Int) : bits .or k x y = bits .or k y x := by simp [bits, BitVec.or_comm]

theorem or_up (i : Nat) (x y p : Int) (hx : 0 ≤ x) (hx2 : x < 2 ^ i) (hy : 0 ≤ y) (hy2 : y < 256) (hi : i + 8 ≤ 64) (hp : p = 2 ^ i) (hp2 : y * p < 18446744073709551616) (hx3 : x < 18446744073709551616) (hp0 : 0 ≤ y * p) : bits .or .u64 x (IntKind.u64.wrap (IntKind.u64.wrap y * p)) = x + y * p := by
  rw [wraps_u64U y hy (by omega), wraps_u64U _ hp0 hp2, bits_or_commU, bits_join .u64 64 (by decide) wraps_u64U i _ _ hp0 (by rw [hp, Int.mul_emod_left]) hp2 hx hx2 hx3]
  omega

theorem word_ctr (l : List UInt8) (h : 8 ≤ l.length) : Ctr Tryd.prog 68 [.s l] (.i .u64 (wordV l)) := by
  have r0 := at_range l 0
  have r1 := at_range l 1
  have r2 := at_range l 2
  have r3 := at_range l 3
  have r4 := at_range l 4
  have r5 := at_range l 5
  have r6 := at_range l 6
  have r7 := at_range l 7
  refine r_fun Tryd.func68 rfl Tryd.ntmps68 Tryd.results68 rfl rfl fun X hL hX => ?_
  repeat' (first
    | with_reducible refine t_seq ?_ | with_reducible refine t_region ?_ | with_reducible refine c_nil ?_ | with_reducible refine n_then ?_
    | with_reducible refine t_ret ?_ | with_reducible refine t_skip ?_ | with_reducible refine t_exit ?_ | with_reducible refine t_block ?_
    | with_reducible refine n_block ?_ | with_reducible refine e_then ?_ | with_reducible refine x_then ?_ | with_reducible refine x_block ?_ | with_reducible refine t_draw ?_
    | refine r_val rfl rfl True.intro ?_ | refine r_gskip rfl rfl rfl ?_ | refine r_gskip2 rfl rfl rfl ?_ | refine r_gval rfl rfl rfl rfl True.intro ?_
    | refine t_true rfl ?_ | refine t_false rfl ?_
    | ((first | refine t_cond_d rfl (fun _ => ?_) (fun _ => ?_) | refine t_cond_i rfl (fun _ => ?_) (fun _ => ?_) | refine t_cond_j rfl (fun _ => ?_) (fun _ => ?_) | refine t_cond_s rfl (fun _ => ?_) (fun _ => ?_) | refine t_cond_n rfl (fun _ => ?_) (fun _ => ?_) | refine t_cond rfl (fun _ => ?_) (fun _ => ?_) | refine c_split_d rfl rfl (fun _ => ?_) (fun _ => ?_) | refine c_split_i rfl rfl (fun _ => ?_) (fun _ => ?_) | refine c_split_j rfl rfl (fun _ => ?_) (fun _ => ?_) | refine c_split_s rfl rfl (fun _ => ?_) (fun _ => ?_) | refine c_split_n rfl rfl (fun _ => ?_) (fun _ => ?_)) <;> try (first | (rename_i hz; exact Bool.noConfusion (show true = false from hz)) | (rename_i hz; exact Bool.noConfusion (show false = true from hz)) | (exfalso; omega)))
    | refine r_val rfl rfl (by (first | omega | exact Nat.le_of_ble_eq_true rfl | (simp only [wrap_u8, IntKind.wrap_i64, IntKind.wrap_i32, wrap_u32', wrap_u64', InI]; (repeat' refine And.intro ?_ ?_) <;> omega) | ((repeat' refine And.intro ?_ ?_) <;> first | omega | rfl | exact Nat.le_refl _ | exact Nat.le_of_ble_eq_true rfl | exact bytesF_one _) | (simp_all; done) | (simp_all; omega))) ?_ | refine r_gval rfl rfl rfl rfl (by (first | omega | exact Nat.le_of_ble_eq_true rfl | (simp only [wrap_u8, IntKind.wrap_i64, IntKind.wrap_i32, wrap_u32', wrap_u64', InI]; (repeat' refine And.intro ?_ ?_) <;> omega) | ((repeat' refine And.intro ?_ ?_) <;> first | omega | rfl | exact Nat.le_refl _ | exact Nat.le_of_ble_eq_true rfl | exact bytesF_one _) | (simp_all; done) | (simp_all; omega))) ?_
    | refine r_obj rfl rfl (by (first | omega | exact Nat.le_of_ble_eq_true rfl | (simp only [wrap_u8, IntKind.wrap_i64, IntKind.wrap_i32, wrap_u32', wrap_u64', InI]; (repeat' refine And.intro ?_ ?_) <;> omega) | ((repeat' refine And.intro ?_ ?_) <;> first | omega | rfl | exact Nat.le_refl _ | exact Nat.le_of_ble_eq_true rfl | exact bytesF_one _) | (simp_all; done) | (simp_all; omega))) ?_ | refine r_sto rfl (by (first | omega | exact Nat.le_of_ble_eq_true rfl | (simp only [wrap_u8, IntKind.wrap_i64, IntKind.wrap_i32, wrap_u32', wrap_u64', InI]; (repeat' refine And.intro ?_ ?_) <;> omega) | ((repeat' refine And.intro ?_ ?_) <;> first | omega | rfl | exact Nat.le_refl _ | exact Nat.le_of_ble_eq_true rfl | exact bytesF_one _) | (simp_all; done) | (simp_all; omega))) ?_ | refine r_gobj rfl rfl rfl rfl (by (first | omega | exact Nat.le_of_ble_eq_true rfl | (simp only [wrap_u8, IntKind.wrap_i64, IntKind.wrap_i32, wrap_u32', wrap_u64', InI]; (repeat' refine And.intro ?_ ?_) <;> omega) | ((repeat' refine And.intro ?_ ?_) <;> first | omega | rfl | exact Nat.le_refl _ | exact Nat.le_of_ble_eq_true rfl | exact bytesF_one _) | (simp_all; done) | (simp_all; omega))) ?_
    | refine e_hit rfl ?_ | refine e_miss rfl ?_
    | refine ⟨by kernel_rfl, ?_⟩ | refine x_end rfl ?_ | ((with_reducible refine c_grd ?_); (fail_if_success (refine c_lit true rfl rfl rfl ?_)); (fail_if_success (refine c_lit false rfl rfl rfl ?_)); refine c_split rfl rfl (fun _ => ?_) (fun _ => ?_)))
  unfold wordV
  generalize at' l 0 = b0 at *
  generalize at' l 1 = b1 at *
  generalize at' l 2 = b2 at *
  generalize at' l 3 = b3 at *
  generalize at' l 4 = b4 at *
  generalize at' l 5 = b5 at *
  generalize at' l 6 = b6 at *
  generalize at' l 7 = b7 at *
  have p8 : (2 : Int) ^ Int.toNat 8 = 256 := by decide
  have p16 : (2 : Int) ^ Int.toNat 16 = 65536 := by decide
  have p24 : (2 : Int) ^ Int.toNat 24 = 16777216 := by decide
  have p32 : (2 : Int) ^ Int.toNat 32 = 4294967296 := by decide
  have p40 : (2 : Int) ^ Int.toNat 40 = 1099511627776 := by decide
  have p48 : (2 : Int) ^ Int.toNat 48 = 281474976710656 := by decide
  have p56 : (2 : Int) ^ Int.toNat 56 = 72057594037927936 := by decide
  rw [p8, p16, p24, p32, p40, p48, p56, wraps_u64U b0 r0.1 (by omega)]
  rw [or_up 8 b0 b1 256 (by omega) (by omega) r1.1 r1.2 (by omega) (by decide) (by omega) (by omega) (by omega)]
  rw [or_up 16 _ b2 65536 (by omega) (by omega) r2.1 r2.2 (by omega) (by decide) (by omega) (by omega) (by omega)]
  rw [or_up 24 _ b3 16777216 (by omega) (by omega) r3.1 r3.2 (by omega) (by decide) (by omega) (by omega) (by omega)]
  rw [or_up 32 _ b4 4294967296 (by omega) (by omega) r4.1 r4.2 (by omega) (by decide) (by omega) (by omega) (by omega)]
  rw [or_up 40 _ b5 1099511627776 (by omega) (by omega) r5.1 r5.2 (by omega) (by decide) (by omega) (by omega) (by omega)]
  rw [or_up 48 _ b6 281474976710656 (by omega) (by omega) r6.1 r6.2 (by omega) (by decide) (by omega) (by omega) (by omega)]
  rw [or_up 56 _ b7 72057594037927936 (by omega) (by omega) r7.1 r7.2 (by omega) (by decide) (by omega) (by omega) (by omega)]
  exact congrArg (D.i .u64) (by omega)

/-- A word's high bits. -/
theorem hi_bits (w : Nat) (h : bits .and .u64 (w : Int) 9259542123273814144 = 0) (hw : w < 18446744073709551616) : w / 128 % 2 = 0 ∧ w / 32768 % 2 = 0 ∧ w / 8388608 % 2 = 0 ∧ w / 2147483648 % 2 = 0 ∧ w / 549755813888 % 2 = 0 ∧ w / 140737488355328 % 2 = 0 ∧ w / 36028797018963968 % 2 = 0 ∧ w / 9223372036854775808 % 2 = 0 := by
  have h1 := (bits_nat .u64 64 (by decide) wraps_u64U w 9259542123273814144 hw (by decide)).1
  have h2 : w &&& 9259542123273814144 = 0 := by
    have : ((9259542123273814144 : Nat) : Int) = 9259542123273814144 := rfl
    rw [this, h] at h1
    omega
  have key : ∀ i, (9259542123273814144 : Nat).testBit i = true → w / 2 ^ i % 2 = 0 := fun i hi => by
    have h3 : (w &&& 9259542123273814144).testBit i = false := by rw [h2]; exact Nat.zero_testBit i
    rw [Nat.testBit_and, hi, Bool.and_true, Nat.testBit_eq_decide_div_mod_eq] at h3
    have := of_decide_eq_false h3
    omega
  exact ⟨key 7 (by decide), key 15 (by decide), key 23 (by decide), key 31 (by decide), key 39 (by decide), key 47 (by decide), key 55 (by decide), key 63 (by decide)⟩

theorem wordV_range (l : List UInt8) : 0 ≤ wordV l ∧ wordV l < 18446744073709551616 := by
  have r0 := at_range l 0
  have r1 := at_range l 1
  have r2 := at_range l 2
  have r3 := at_range l 3
  have r4 := at_range l 4
  have r5 := at_range l 5
  have r6 := at_range l 6
  have r7 := at_range l 7
  unfold wordV
  omega

theorem word_ascii (l : List UInt8) (h : bits .and .u64 (wordV l) 9259542123273814144 = 0) : ∀ j : Nat, j < 8 → at' l j < 128 := by
  have hr := wordV_range l
  obtain ⟨w, hw⟩ : ∃ w : Nat, wordV l = w := ⟨(wordV l).toNat, by omega⟩
  rw [hw] at h
  obtain ⟨k0, k1, k2, k3, k4, k5, k6, k7⟩ := hi_bits w h (by omega)
  have r0 := at_range l 0
  have r1 := at_range l 1
  have r2 := at_range l 2
  have r3 := at_range l 3
  have r4 := at_range l 4
  have r5 := at_range l 5
  have r6 := at_range l 6
  have r7 := at_range l 7
  unfold wordV at hw
  intro j hj
  have hj : j = 0 ∨ j = 1 ∨ j = 2 ∨ j = 3 ∨ j = 4 ∨ j = 5 ∨ j = 6 ∨ j = 7 := by omega
  rcases hj with rfl | rfl | rfl | rfl | rfl | rfl | rfl | rfl
  · show at' l 0 < 128; clear k1 k2 k3 k4 k5 k6 k7; omega
  · show at' l 1 < 128; clear k0 k2 k3 k4 k5 k6 k7; omega
  · show at' l 2 < 128; clear k1 k0 k3 k4 k5 k6 k7; omega
  · show at' l 3 < 128; clear k1 k2 k0 k4 k5 k6 k7; omega
  · show at' l 4 < 128; clear k1 k2 k3 k0 k5 k6 k7; omega
  · show at' l 5 < 128; clear k1 k2 k3 k4 k0 k6 k7; omega
  · show at' l 6 < 128; clear k1 k2 k3 k4 k5 k0 k7; omega
  · show at' l 7 < 128; clear k1 k2 k3 k4 k5 k6 k0; omega

theorem and_or (a b : Int) (ha : 0 ≤ a) (ha2 : a < 18446744073709551616) (hb : 0 ≤ b) (hb2 : b < 18446744073709551616) (h : bits .and .u64 (bits .or .u64 a b) 9259542123273814144 = 0) : bits .and .u64 a 9259542123273814144 = 0 ∧ bits .and .u64 b 9259542123273814144 = 0 := by
  obtain ⟨x, rfl⟩ := Int.eq_ofNat_of_zero_le ha
  obtain ⟨y, rfl⟩ := Int.eq_ofNat_of_zero_le hb
  have hx : x < 2 ^ 64 := by omega
  have hy : y < 2 ^ 64 := by omega
  have hM : (9259542123273814144 : Nat) < 2 ^ 64 := by decide
  have c : ((9259542123273814144 : Nat) : Int) = 9259542123273814144 := rfl
  rw [(bits_nat .u64 64 (by decide) wraps_u64U x y hx hy).2, ← c, (bits_nat .u64 64 (by decide) wraps_u64U (x ||| y) 9259542123273814144 (Nat.or_lt_two_pow hx hy) hM).1, Nat.and_or_distrib_right] at h
  rw [← c, (bits_nat .u64 64 (by decide) wraps_u64U x 9259542123273814144 hx hM).1, (bits_nat .u64 64 (by decide) wraps_u64U y 9259542123273814144 hy hM).1]
  have h2 : x &&& 9259542123273814144 ||| y &&& 9259542123273814144 = 0 := by omega
  rw [Nat.or_eq_zero_iff] at h2
  rw [h2.1, h2.2]
  exact ⟨rfl, rfl⟩

theorem or_range (a b : Int) (ha : 0 ≤ a) (ha2 : a < 18446744073709551616) (hb : 0 ≤ b) (hb2 : b < 18446744073709551616) : 0 ≤ bits .or .u64 a b ∧ bits .or .u64 a b < 18446744073709551616 := by
  obtain ⟨x, rfl⟩ := Int.eq_ofNat_of_zero_le ha
  obtain ⟨y, rfl⟩ := Int.eq_ofNat_of_zero_le hb
  have hx : x < 2 ^ 64 := by omega
  have hy : y < 2 ^ 64 := by omega
  rw [(bits_nat .u64 64 (by decide) wraps_u64U x y hx hy).2]
  have := Nat.or_lt_two_pow hx hy
  omega

end Go.Proofs.YtinjdlckhmkmaaaDoor.Flow

/- TYPED: a whole number's own text is read as that number, in plain words. -/
namespace Go.Proofs.YtinjdlckhmkmaaaDoor.Flow
open Go

section
variable {x ds : List UInt8} {i : Nat}
theorem takeWhile_whole {p : UInt8 → Bool} : ∀ {ds : List UInt8}, (∀ c ∈ ds, p c = true) → ds.takeWhile p = ds
  | [], _ => rfl
  | c :: ds, h => by rw [List.takeWhile_cons, if_pos (h c (by simp)), takeWhile_whole fun c hc => h c (by simp [hc])]

theorem frN_end (h : x.length ≤ i) : frN x i = ([], i) := frN_neg (.inl fun h2 => by have := h2.1; omega)
theorem exN_end {pw : List UInt8 → Int} (h : x.length ≤ i) : exN pw x i = (0, i) := exN_neg (.inl fun h2 => by
  rcases h2 with h2 | h2
  · have := h2.1
    omega
  · have := h2.1
    omega)
end

theorem norm_num2 {n e : Int} (h : ¬ n = 0) (hn : n.natAbs < 10 ^ 19) (h0 : -900 ≤ e) (h1 : e ≤ 900) : (normF (decide (n < 0)) (Lib.decDigits n.natAbs) e).2 = 0 := by
  have hl := dec_len n.natAbs 19 hn (by omega)
  obtain ⟨c, l, hc, hc2⟩ := dec_first n.natAbs (by omega)
  have hlen := tR_len (Lib.decDigits n.natAbs)
  have hf := tR_first (l := l) hc2
  rw [← hc] at hf
  unfold normF
  generalize Lib.decDigits n.natAbs = D at *
  obtain ⟨m, hm⟩ := hf
  rw [hm] at hlen ⊢
  simp only [List.length_cons] at hlen
  rw [tL_ne hc2]
  simp only [List.length_cons]
  rw [if_neg (by omega), if_neg (by omega), if_neg (by omega)]

theorem ofF_norm (n : Int) (hn : n.natAbs < 10 ^ 19) : normF (decide (n < 0)) (Lib.decDigits n.natAbs) 0 = (ofF n 0, 0) := by
  by_cases h : n = 0
  · subst h
    show normF false (Lib.decDigits 0) 0 = _
    rw [ofF_zero, show Lib.decDigits 0 = [48] from dec_small (by omega), norm_zero]
  · refine Prod.ext ?_ (norm_num2 h hn (by omega) (by omega))
    unfold ofF
    rw [if_neg (by omega)]

theorem itoa_sg (n : Int) : Lib.itoa n = sgL (decide (n < 0)) ++ Lib.decDigits n.natAbs := by
  obtain ⟨h1, h2⟩ := itoa_abs n
  by_cases h : n < 0
  · rw [h1 h, decide_eq_true h]
    rfl
  · rw [h2 h, decide_eq_false h]
    rfl

theorem dec_len1 (k : Nat) : 1 ≤ (Lib.decDigits k).length := by
  by_cases h : k = 0
  · subst h
    rw [dec_small (by omega)]
    simp
  · obtain ⟨c, l, h1, _⟩ := dec_first k h
    rw [h1]
    simp

end Go.Proofs.YtinjdlckhmkmaaaDoor.Flow

/- UTF: utf8.ValidString. -/
namespace Go.Proofs.YtinjdlckhmkmaaaDoor.Flow
open Go

theorem word_ctr' (l l' : List UInt8) (e : l = l') (h : 8 ≤ l'.length) : Ctr Tryd.prog 68 [.s l] (.i .u64 (wordV l')) := by
  subst e
  exact word_ctr l h

theorem cut_from (l : List UInt8) (k : Nat) (n : Int) (hn : n = k) : ((l.take ((l.length : Int)).toNat).drop n.toNat) = l.drop k := by
  subst hn
  rw [Int.toNat_natCast, Int.toNat_natCast, List.take_length]

theorem sizes (c : Int) (h0 : 128 ≤ c) (h1 : c < 256) :
    (c < 194 ∨ 244 < c) ∧ firstZ c.toNat = 241 ∨ (194 ≤ c ∧ c ≤ 223) ∧ firstZ c.toNat = 2 ∨ c = 224 ∧ firstZ c.toNat = 19 ∨ (225 ≤ c ∧ c ≤ 236 ∨ 238 ≤ c ∧ c ≤ 239) ∧ firstZ c.toNat = 3 ∨ c = 237 ∧ firstZ c.toNat = 35 ∨
      c = 240 ∧ firstZ c.toNat = 52 ∨ (241 ≤ c ∧ c ≤ 243) ∧ firstZ c.toNat = 4 ∨ c = 244 ∧ firstZ c.toNat = 68 := by
  obtain ⟨n, rfl⟩ := Int.eq_ofNat_of_zero_le (show 0 ≤ c by omega)
  rw [Int.toNat_natCast]
  have h : n < 194 ∨ (194 ≤ n ∧ n < 224) ∨ n = 224 ∨ (225 ≤ n ∧ n < 237) ∨ n = 237 ∨ (238 ≤ n ∧ n < 240) ∨ n = 240 ∨ (241 ≤ n ∧ n < 244) ∨ n = 244 ∨ 245 ≤ n := by omega
  rcases h with h | h | h | h | h | h | h | h | h | h
  · have e : firstZ n = 241 := by unfold firstZ; rw [if_neg (by omega), if_pos (by omega)]
    omega
  · have e : firstZ n = 2 := by unfold firstZ; rw [if_neg (by omega), if_neg (by omega), if_pos (by omega)]
    omega
  · have e : firstZ n = 19 := by unfold firstZ; rw [if_neg (by omega), if_neg (by omega), if_neg (by omega), if_pos (by omega)]
    omega
  · have e : firstZ n = 3 := by unfold firstZ; rw [if_neg (by omega), if_neg (by omega), if_neg (by omega), if_neg (by omega), if_pos (by omega)]
    omega
  · have e : firstZ n = 35 := by unfold firstZ; rw [if_neg (by omega), if_neg (by omega), if_neg (by omega), if_neg (by omega), if_neg (by omega), if_pos (by omega)]
    omega
  · have e : firstZ n = 3 := by unfold firstZ; rw [if_neg (by omega), if_neg (by omega), if_neg (by omega), if_neg (by omega), if_neg (by omega), if_neg (by omega), if_pos (by omega)]
    omega
  · have e : firstZ n = 52 := by unfold firstZ; rw [if_neg (by omega), if_neg (by omega), if_neg (by omega), if_neg (by omega), if_neg (by omega), if_neg (by omega), if_neg (by omega), if_pos (by omega)]
    omega
  · have e : firstZ n = 4 := by unfold firstZ; rw [if_neg (by omega), if_neg (by omega), if_neg (by omega), if_neg (by omega), if_neg (by omega), if_neg (by omega), if_neg (by omega), if_neg (by omega), if_pos (by omega)]
    omega
  · have e : firstZ n = 68 := by unfold firstZ; rw [if_neg (by omega), if_neg (by omega), if_neg (by omega), if_neg (by omega), if_neg (by omega), if_neg (by omega), if_neg (by omega), if_neg (by omega), if_neg (by omega), if_pos (by omega)]
    omega
  · have e : firstZ n = 241 := by unfold firstZ; rw [if_neg (by omega), if_neg (by omega), if_neg (by omega), if_neg (by omega), if_neg (by omega), if_neg (by omega), if_neg (by omega), if_neg (by omega), if_neg (by omega), if_neg (by omega)]
    omega

theorem oneL_eq {l : List UInt8} (h : ¬ at' l 0 < 128) : oneL l = if 1 < (l.length : Int) ∧ loF (at' l 0) ≤ at' l 1 ∧ at' l 1 ≤ hiF (at' l 0) then
      (if 194 ≤ at' l 0 ∧ at' l 0 ≤ 223 then 2 else if 224 ≤ at' l 0 ∧ at' l 0 ≤ 239 ∧ 2 < (l.length : Int) ∧ 128 ≤ at' l 2 ∧ at' l 2 ≤ 191 then 3
      else if 240 ≤ at' l 0 ∧ at' l 0 ≤ 244 ∧ 2 < (l.length : Int) ∧ 128 ≤ at' l 2 ∧ at' l 2 ≤ 191 ∧ 3 < (l.length : Int) ∧ 128 ≤ at' l 3 ∧ at' l 3 ≤ 191 then 4 else 0) else 0 := by
  have ht : ∀ (k lo hi : Int), tlB l k lo hi = true ↔ k < l.length ∧ lo ≤ at' l k ∧ at' l k ≤ hi := fun k lo hi => by
    unfold tlB
    simp [and_assoc]
  unfold oneL
  rw [if_neg h]
  by_cases h1 : tlB l 1 (loF (at' l 0)) (hiF (at' l 0)) = true
  · rw [if_neg (by rw [h1]; decide), if_pos ((ht _ _ _).1 h1)]
    simp only [ht, and_assoc]
  · rw [if_pos (by simpa using h1), if_neg (fun h2 => h1 ((ht _ _ _).2 h2))]

set_option maxRecDepth 20000 in
set_option maxHeartbeats 2000000 in
theorem validS_ctr (l0 : List UInt8) (hl0 : l0.length ≤ 1099511627776) : Ctr Tryd.prog 48 [.s l0] (.b (validL l0)) := by
  refine r_fun Tryd.func48 rfl Tryd.ntmps48 Tryd.results48 rfl rfl fun X hL hX => ?_
  repeat' (first
    | with_reducible refine t_seq ?_ | with_reducible refine t_region ?_ | with_reducible refine c_nil ?_ | with_reducible refine n_then ?_
    | with_reducible refine t_ret ?_ | with_reducible refine t_skip ?_ | with_reducible refine t_exit ?_ | with_reducible refine t_block ?_
    | with_reducible refine n_block ?_ | with_reducible refine e_then ?_ | with_reducible refine x_then ?_ | with_reducible refine x_block ?_ | with_reducible refine t_draw ?_
    | refine r_val rfl rfl True.intro ?_ | refine r_gskip rfl rfl rfl ?_ | refine r_gskip2 rfl rfl rfl ?_ | refine r_gval rfl rfl rfl rfl True.intro ?_
    | refine t_true rfl ?_ | refine t_false rfl ?_
    | ((first | refine t_cond_d rfl (fun _ => ?_) (fun _ => ?_) | refine t_cond_i rfl (fun _ => ?_) (fun _ => ?_) | refine t_cond_j rfl (fun _ => ?_) (fun _ => ?_) | refine t_cond_s rfl (fun _ => ?_) (fun _ => ?_) | refine t_cond_n rfl (fun _ => ?_) (fun _ => ?_) | refine t_cond rfl (fun _ => ?_) (fun _ => ?_) | refine c_split_d rfl rfl (fun _ => ?_) (fun _ => ?_) | refine c_split_i rfl rfl (fun _ => ?_) (fun _ => ?_) | refine c_split_j rfl rfl (fun _ => ?_) (fun _ => ?_) | refine c_split_s rfl rfl (fun _ => ?_) (fun _ => ?_) | refine c_split_n rfl rfl (fun _ => ?_) (fun _ => ?_)) <;> try (first | contradiction | (exfalso; omega)))
    | refine r_val rfl rfl (by (first | omega | exact Nat.le_of_ble_eq_true rfl | (simp only [wrap_u8, IntKind.wrap_i64, IntKind.wrap_i32, wrap_u32', wrap_u64', InI]; (repeat' refine And.intro ?_ ?_) <;> omega) | ((repeat' refine And.intro ?_ ?_) <;> first | omega | rfl | exact Nat.le_refl _ | exact Nat.le_of_ble_eq_true rfl | exact bytesF_one _) | (simp_all; done) | (simp_all; omega))) ?_ | refine r_gval rfl rfl rfl rfl (by (first | omega | exact Nat.le_of_ble_eq_true rfl | (simp only [wrap_u8, IntKind.wrap_i64, IntKind.wrap_i32, wrap_u32', wrap_u64', InI]; (repeat' refine And.intro ?_ ?_) <;> omega) | ((repeat' refine And.intro ?_ ?_) <;> first | omega | rfl | exact Nat.le_refl _ | exact Nat.le_of_ble_eq_true rfl | exact bytesF_one _) | (simp_all; done) | (simp_all; omega))) ?_
    | refine r_obj rfl rfl (by (first | omega | exact Nat.le_of_ble_eq_true rfl | (simp only [wrap_u8, IntKind.wrap_i64, IntKind.wrap_i32, wrap_u32', wrap_u64', InI]; (repeat' refine And.intro ?_ ?_) <;> omega) | ((repeat' refine And.intro ?_ ?_) <;> first | omega | rfl | exact Nat.le_refl _ | exact Nat.le_of_ble_eq_true rfl | exact bytesF_one _) | (simp_all; done) | (simp_all; omega))) ?_ | refine r_sto rfl (by (first | omega | exact Nat.le_of_ble_eq_true rfl | (simp only [wrap_u8, IntKind.wrap_i64, IntKind.wrap_i32, wrap_u32', wrap_u64', InI]; (repeat' refine And.intro ?_ ?_) <;> omega) | ((repeat' refine And.intro ?_ ?_) <;> first | omega | rfl | exact Nat.le_refl _ | exact Nat.le_of_ble_eq_true rfl | exact bytesF_one _) | (simp_all; done) | (simp_all; omega))) ?_ | refine r_gobj rfl rfl rfl rfl (by (first | omega | exact Nat.le_of_ble_eq_true rfl | (simp only [wrap_u8, IntKind.wrap_i64, IntKind.wrap_i32, wrap_u32', wrap_u64', InI]; (repeat' refine And.intro ?_ ?_) <;> omega) | ((repeat' refine And.intro ?_ ?_) <;> first | omega | rfl | exact Nat.le_refl _ | exact Nat.le_of_ble_eq_true rfl | exact bytesF_one _) | (simp_all; done) | (simp_all; omega))) ?_
    | refine e_hit rfl ?_ | refine e_miss rfl ?_
    | refine ⟨by kernel_rfl, ?_⟩ | refine x_end rfl ?_ | ((with_reducible refine c_grd ?_); (fail_if_success (refine c_lit true rfl rfl rfl ?_)); (fail_if_success (refine c_lit false rfl rfl rfl ?_)); refine c_split rfl rfl (fun _ => ?_) (fun _ => ?_)))
  refine T.loop hL (fun l : List UInt8 => [(0, .s l)]) (fun _ => []) (fun l => l.length ≤ l0.length ∧ validL l = validL l0) (fun l => l.length) l0
    ⟨Nat.le_refl _, rfl⟩ ⟨⟨rfl, trivial⟩, trivial, rfl, by rw [hX]; intro k hk; cases hk⟩ ?_
  rintro l ⟨g1, g2⟩
  have hr := at_range l 0
  by_cases hlen : l.length = 0
  · have hv := validL_nil hlen
    repeat' (first
      | with_reducible refine t_seq ?_ | with_reducible refine t_region ?_ | with_reducible refine c_nil ?_ | with_reducible refine n_then ?_
      | with_reducible refine t_ret ?_ | with_reducible refine t_skip ?_ | with_reducible refine t_exit ?_ | with_reducible refine t_block ?_
      | with_reducible refine n_block ?_ | with_reducible refine e_then ?_ | with_reducible refine x_then ?_ | with_reducible refine x_block ?_ | with_reducible refine t_draw ?_
      | refine r_val rfl rfl True.intro ?_ | refine r_gskip rfl rfl rfl ?_ | refine r_gskip2 rfl rfl rfl ?_ | refine r_gval rfl rfl rfl rfl True.intro ?_
      | refine t_true rfl ?_ | refine t_false rfl ?_
      | ((first | refine t_cond_d rfl (fun _ => ?_) (fun _ => ?_) | refine t_cond_i rfl (fun _ => ?_) (fun _ => ?_) | refine t_cond_j rfl (fun _ => ?_) (fun _ => ?_) | refine t_cond_s rfl (fun _ => ?_) (fun _ => ?_) | refine t_cond_n rfl (fun _ => ?_) (fun _ => ?_) | refine t_cond rfl (fun _ => ?_) (fun _ => ?_) | refine c_split_d rfl rfl (fun _ => ?_) (fun _ => ?_) | refine c_split_i rfl rfl (fun _ => ?_) (fun _ => ?_) | refine c_split_j rfl rfl (fun _ => ?_) (fun _ => ?_) | refine c_split_s rfl rfl (fun _ => ?_) (fun _ => ?_) | refine c_split_n rfl rfl (fun _ => ?_) (fun _ => ?_)) <;> try (first | (rename_i hz; exact Bool.noConfusion (show true = false from hz)) | (rename_i hz; exact Bool.noConfusion (show false = true from hz)) | (exfalso; omega)))
      | refine r_val rfl rfl (by (first | omega | exact Nat.le_of_ble_eq_true rfl | (simp only [wrap_u8, IntKind.wrap_i64, IntKind.wrap_i32, wrap_u32', wrap_u64', InI]; (repeat' refine And.intro ?_ ?_) <;> omega) | ((repeat' refine And.intro ?_ ?_) <;> first | omega | rfl | exact Nat.le_refl _ | exact Nat.le_of_ble_eq_true rfl | exact bytesF_one _) | (simp_all; done) | (simp_all; omega))) ?_ | refine r_gval rfl rfl rfl rfl (by (first | omega | exact Nat.le_of_ble_eq_true rfl | (simp only [wrap_u8, IntKind.wrap_i64, IntKind.wrap_i32, wrap_u32', wrap_u64', InI]; (repeat' refine And.intro ?_ ?_) <;> omega) | ((repeat' refine And.intro ?_ ?_) <;> first | omega | rfl | exact Nat.le_refl _ | exact Nat.le_of_ble_eq_true rfl | exact bytesF_one _) | (simp_all; done) | (simp_all; omega))) ?_
      | refine r_obj rfl rfl (by (first | omega | exact Nat.le_of_ble_eq_true rfl | (simp only [wrap_u8, IntKind.wrap_i64, IntKind.wrap_i32, wrap_u32', wrap_u64', InI]; (repeat' refine And.intro ?_ ?_) <;> omega) | ((repeat' refine And.intro ?_ ?_) <;> first | omega | rfl | exact Nat.le_refl _ | exact Nat.le_of_ble_eq_true rfl | exact bytesF_one _) | (simp_all; done) | (simp_all; omega))) ?_ | refine r_sto rfl (by (first | omega | exact Nat.le_of_ble_eq_true rfl | (simp only [wrap_u8, IntKind.wrap_i64, IntKind.wrap_i32, wrap_u32', wrap_u64', InI]; (repeat' refine And.intro ?_ ?_) <;> omega) | ((repeat' refine And.intro ?_ ?_) <;> first | omega | rfl | exact Nat.le_refl _ | exact Nat.le_of_ble_eq_true rfl | exact bytesF_one _) | (simp_all; done) | (simp_all; omega))) ?_ | refine r_gobj rfl rfl rfl rfl (by (first | omega | exact Nat.le_of_ble_eq_true rfl | (simp only [wrap_u8, IntKind.wrap_i64, IntKind.wrap_i32, wrap_u32', wrap_u64', InI]; (repeat' refine And.intro ?_ ?_) <;> omega) | ((repeat' refine And.intro ?_ ?_) <;> first | omega | rfl | exact Nat.le_refl _ | exact Nat.le_of_ble_eq_true rfl | exact bytesF_one _) | (simp_all; done) | (simp_all; omega))) ?_
      | refine e_hit rfl ?_ | refine e_miss rfl ?_
      | refine ⟨by kernel_rfl, ?_⟩ | refine x_end rfl ?_ | ((with_reducible refine c_grd ?_); (fail_if_success (refine c_lit true rfl rfl rfl ?_)); (fail_if_success (refine c_lit false rfl rfl rfl ?_)); refine c_split rfl rfl (fun _ => ?_) (fun _ => ?_)))
    rw [← g2, hv]
  by_cases hasc : at' l 0 < 128
  · have hv1 : validL (l.drop 1) = validL l := valid_ascii 1 l (by omega) fun j hj => by rw [show j = 0 by omega]; exact hasc
    have hl1 : (l.drop 1).length = l.length - 1 := List.length_drop
    have e1 := cut_from l 1 1 rfl
    generalize l.drop 1 = l1 at hv1 hl1 e1
    rw [g2] at hv1
    have hv9 : 8 ≤ l1.length → bits .and .u64 (wordV l1) 9259542123273814144 = 0 → validL (l1.drop 8) = validL l0 := fun h1 h2 => by rw [valid_ascii 8 l1 h1 (word_ascii l1 h2), hv1]
    have hl9 : (l1.drop 8).length = l1.length - 8 := List.length_drop
    have e9 := cut_from l1 8 8 rfl
    generalize l1.drop 8 = l9 at hv9 hl9 e9
    have hv25 : validL l9 = validL l0 → 16 ≤ l9.length → bits .and .u64 (bits .or .u64 (wordV l9) (wordV (l9.drop 8))) 9259542123273814144 = 0 → validL (l9.drop 16) = validL l0 := fun h0 h1 h2 => by
      have w1 := wordV_range l9
      have w2 := wordV_range (l9.drop 8)
      obtain ⟨a1, a2⟩ := and_or _ _ w1.1 w1.2 w2.1 w2.2 h2
      rw [valid_ascii 16 l9 h1 (fun j hj => ?_), h0]
      by_cases h8 : j < 8
      · exact word_ascii l9 a1 j h8
      · have := word_ascii _ a2 (j - 8) (by omega)
        rw [at_drop, show 8 + (j - 8) = j by omega] at this
        exact this
    have hl25 : (l9.drop 16).length = l9.length - 16 := List.length_drop
    have f8 := cut_from l9 8 8 rfl
    have hf8 : (l9.drop 8).length = l9.length - 8 := List.length_drop
    have e25 := cut_from l9 16 16 rfl
    generalize l9.drop 16 = l25 at hv25 hl25 e25
    generalize l9.drop 8 = l17 at hv25 f8 hf8
    have leaf : ∀ (m : List UInt8) (fr : Fr) (ow : Ow), m.length < l.length → validL m = validL l0 → leFr fr [(0, .s m)] →
        ∃ y : List UInt8, (y.length ≤ l0.length ∧ validL y = validL l0) ∧ y.length < l.length ∧ Le X fr ow [(0, .s y)] [] := fun m fr ow h1 h2 h3 =>
      ⟨m, ⟨by omega, h2⟩, h1, h3, trivial, rfl, by rw [hX]; intro k hk; cases hk⟩
    repeat' (first
      | refine T.weakF 0 (.s l1) (.of_eq (congrArg D.s e1)) ?_ | refine T.weakF 0 (.s l9) (.of_eq (congrArg D.s e9)) ?_ | refine T.weakF 0 (.s l25) (.of_eq (congrArg D.s e25)) ?_
      | with_reducible refine t_seq ?_ | with_reducible refine t_region ?_ | with_reducible refine c_nil ?_ | with_reducible refine n_then ?_
      | with_reducible refine t_ret ?_ | with_reducible refine t_skip ?_ | with_reducible refine t_exit ?_ | with_reducible refine t_block ?_
      | with_reducible refine n_block ?_ | with_reducible refine e_then ?_ | with_reducible refine x_then ?_ | with_reducible refine x_block ?_ | with_reducible refine t_draw ?_
      | refine r_val rfl rfl True.intro ?_ | refine r_gskip rfl rfl rfl ?_ | refine r_gskip2 rfl rfl rfl ?_ | refine r_gval rfl rfl rfl rfl True.intro ?_
      | refine t_true rfl ?_ | refine t_false rfl ?_
      | ((first | refine t_cond_d rfl (fun _ => ?_) (fun _ => ?_) | refine t_cond_i rfl (fun _ => ?_) (fun _ => ?_) | refine t_cond_j rfl (fun _ => ?_) (fun _ => ?_) | refine t_cond_s rfl (fun _ => ?_) (fun _ => ?_) | refine t_cond_n rfl (fun _ => ?_) (fun _ => ?_) | refine t_cond rfl (fun _ => ?_) (fun _ => ?_) | refine c_split_d rfl rfl (fun _ => ?_) (fun _ => ?_) | refine c_split_i rfl rfl (fun _ => ?_) (fun _ => ?_) | refine c_split_j rfl rfl (fun _ => ?_) (fun _ => ?_) | refine c_split_s rfl rfl (fun _ => ?_) (fun _ => ?_) | refine c_split_n rfl rfl (fun _ => ?_) (fun _ => ?_)) <;> try (first | (rename_i hz; exact Bool.noConfusion (show true = false from hz)) | (rename_i hz; exact Bool.noConfusion (show false = true from hz)) | (exfalso; omega)))
      | refine r_val rfl rfl (by (first | omega | exact Nat.le_of_ble_eq_true rfl | (simp only [wrap_u8, IntKind.wrap_i64, IntKind.wrap_i32, wrap_u32', wrap_u64', InI]; (repeat' refine And.intro ?_ ?_) <;> omega) | ((repeat' refine And.intro ?_ ?_) <;> first | omega | rfl | exact Nat.le_refl _ | exact Nat.le_of_ble_eq_true rfl | exact bytesF_one _) | (simp_all; done) | (simp_all; omega))) ?_ | refine r_gval rfl rfl rfl rfl (by (first | omega | exact Nat.le_of_ble_eq_true rfl | (simp only [wrap_u8, IntKind.wrap_i64, IntKind.wrap_i32, wrap_u32', wrap_u64', InI]; (repeat' refine And.intro ?_ ?_) <;> omega) | ((repeat' refine And.intro ?_ ?_) <;> first | omega | rfl | exact Nat.le_refl _ | exact Nat.le_of_ble_eq_true rfl | exact bytesF_one _) | (simp_all; done) | (simp_all; omega))) ?_
      | refine r_obj rfl rfl (by (first | omega | exact Nat.le_of_ble_eq_true rfl | (simp only [wrap_u8, IntKind.wrap_i64, IntKind.wrap_i32, wrap_u32', wrap_u64', InI]; (repeat' refine And.intro ?_ ?_) <;> omega) | ((repeat' refine And.intro ?_ ?_) <;> first | omega | rfl | exact Nat.le_refl _ | exact Nat.le_of_ble_eq_true rfl | exact bytesF_one _) | (simp_all; done) | (simp_all; omega))) ?_ | refine r_sto rfl (by (first | omega | exact Nat.le_of_ble_eq_true rfl | (simp only [wrap_u8, IntKind.wrap_i64, IntKind.wrap_i32, wrap_u32', wrap_u64', InI]; (repeat' refine And.intro ?_ ?_) <;> omega) | ((repeat' refine And.intro ?_ ?_) <;> first | omega | rfl | exact Nat.le_refl _ | exact Nat.le_of_ble_eq_true rfl | exact bytesF_one _) | (simp_all; done) | (simp_all; omega))) ?_ | refine r_gobj rfl rfl rfl rfl (by (first | omega | exact Nat.le_of_ble_eq_true rfl | (simp only [wrap_u8, IntKind.wrap_i64, IntKind.wrap_i32, wrap_u32', wrap_u64', InI]; (repeat' refine And.intro ?_ ?_) <;> omega) | ((repeat' refine And.intro ?_ ?_) <;> first | omega | rfl | exact Nat.le_refl _ | exact Nat.le_of_ble_eq_true rfl | exact bytesF_one _) | (simp_all; done) | (simp_all; omega))) ?_
      | refine e_hit rfl ?_ | refine e_miss rfl ?_
      | refine ⟨by kernel_rfl, ?_⟩ | refine x_end rfl ?_ | refine r_gcall (f := 68) rfl rfl rfl rfl Tryd.call68 rfl (word_ctr' _ l1 rfl (by omega)) ?_ | refine r_gcall (f := 68) rfl rfl rfl rfl Tryd.call68 rfl (word_ctr' _ l9 rfl (by omega)) ?_ | refine r_gcall (f := 68) rfl rfl rfl rfl Tryd.call68 rfl (word_ctr' _ l17 f8 (by omega)) ?_ | ((with_reducible refine c_grd ?_); (fail_if_success (refine c_lit true rfl rfl rfl ?_)); (fail_if_success (refine c_lit false rfl rfl rfl ?_)); refine c_split rfl rfl (fun _ => ?_) (fun _ => ?_)))
    · have hv9 := hv9 (by omega) ‹_›
      have hv25 := hv25 hv9 (by omega) ‹_›
      refine T.loop hL (fun m : List UInt8 => [(0, .s m)]) (fun _ => []) (fun m => m.length < l.length ∧ validL m = validL l0) (fun m => m.length) l25
        ⟨by omega, hv25⟩ ⟨⟨rfl, trivial⟩, trivial, rfl, by rw [hX]; intro k hk; cases hk⟩ ?_
      clear hv9 hv25 hl25 e25 hf8 f8 hl9 e9 hv1 hl1 e1
      rintro m ⟨q1, q2⟩
      have f8 := cut_from m 8 8 rfl
      have f16 := cut_from m 16 16 rfl
      have f24 := cut_from m 24 24 rfl
      have f32 := cut_from m 32 32 rfl
      have h8 : (m.drop 8).length = m.length - 8 := List.length_drop
      have h16 : (m.drop 16).length = m.length - 16 := List.length_drop
      have h24 : (m.drop 24).length = m.length - 24 := List.length_drop
      have h32 : (m.drop 32).length = m.length - 32 := List.length_drop
      have hv32 : 32 ≤ m.length → bits .and .u64 (bits .or .u64 (bits .or .u64 (wordV m) (wordV (m.drop 8))) (bits .or .u64 (wordV (m.drop 16)) (wordV (m.drop 24)))) 9259542123273814144 = 0 → validL (m.drop 32) = validL l0 := fun h1 h2 => by
        have w0 := wordV_range m
        have w1 := wordV_range (m.drop 8)
        have w2 := wordV_range (m.drop 16)
        have w3 := wordV_range (m.drop 24)
        have o1 := or_range _ _ w0.1 w0.2 w1.1 w1.2
        have o2 := or_range _ _ w2.1 w2.2 w3.1 w3.2
        obtain ⟨a1, a2⟩ := and_or _ _ o1.1 o1.2 o2.1 o2.2 h2
        obtain ⟨b0, b1⟩ := and_or _ _ w0.1 w0.2 w1.1 w1.2 a1
        obtain ⟨b2, b3⟩ := and_or _ _ w2.1 w2.2 w3.1 w3.2 a2
        rw [valid_ascii 32 m h1 (fun j hj => ?_), q2]
        have part : ∀ k : Nat, bits .and .u64 (wordV (m.drop k)) 9259542123273814144 = 0 → k ≤ j → j < k + 8 → at' m j < 128 := fun k hk g1 g2 => by
          have := word_ascii _ hk (j - k) (by omega)
          rw [at_drop, show k + (j - k) = j by omega] at this
          exact this
        by_cases c1 : j < 8
        · exact word_ascii m b0 j c1
        · by_cases c2 : j < 16
          · exact part 8 b1 (by omega) (by omega)
          · by_cases c3 : j < 24
            · exact part 16 b2 (by omega) (by omega)
            · exact part 24 b3 (by omega) (by omega)
      generalize m.drop 8 = m8 at *
      generalize m.drop 16 = m16 at *
      generalize m.drop 24 = m24 at *
      generalize m.drop 32 = m32 at *
      repeat' (first
        | refine T.weakF 0 (.s m32) (.of_eq (congrArg D.s f32)) ?_
        | with_reducible refine t_seq ?_ | with_reducible refine t_region ?_ | with_reducible refine c_nil ?_ | with_reducible refine n_then ?_
        | with_reducible refine t_ret ?_ | with_reducible refine t_skip ?_ | with_reducible refine t_exit ?_ | with_reducible refine t_block ?_
        | with_reducible refine n_block ?_ | with_reducible refine e_then ?_ | with_reducible refine x_then ?_ | with_reducible refine x_block ?_ | with_reducible refine t_draw ?_
        | refine r_val rfl rfl True.intro ?_ | refine r_gskip rfl rfl rfl ?_ | refine r_gskip2 rfl rfl rfl ?_ | refine r_gval rfl rfl rfl rfl True.intro ?_
        | refine t_true rfl ?_ | refine t_false rfl ?_
        | ((first | refine t_cond_d rfl (fun _ => ?_) (fun _ => ?_) | refine t_cond_i rfl (fun _ => ?_) (fun _ => ?_) | refine t_cond_j rfl (fun _ => ?_) (fun _ => ?_) | refine t_cond_s rfl (fun _ => ?_) (fun _ => ?_) | refine t_cond_n rfl (fun _ => ?_) (fun _ => ?_) | refine t_cond rfl (fun _ => ?_) (fun _ => ?_) | refine c_split_d rfl rfl (fun _ => ?_) (fun _ => ?_) | refine c_split_i rfl rfl (fun _ => ?_) (fun _ => ?_) | refine c_split_j rfl rfl (fun _ => ?_) (fun _ => ?_) | refine c_split_s rfl rfl (fun _ => ?_) (fun _ => ?_) | refine c_split_n rfl rfl (fun _ => ?_) (fun _ => ?_)) <;> try (first | (rename_i hz; exact Bool.noConfusion (show true = false from hz)) | (rename_i hz; exact Bool.noConfusion (show false = true from hz)) | (exfalso; omega)))
        | refine r_val rfl rfl (by (first | omega | exact Nat.le_of_ble_eq_true rfl | (simp only [wrap_u8, IntKind.wrap_i64, IntKind.wrap_i32, wrap_u32', wrap_u64', InI]; (repeat' refine And.intro ?_ ?_) <;> omega) | ((repeat' refine And.intro ?_ ?_) <;> first | omega | rfl | exact Nat.le_refl _ | exact Nat.le_of_ble_eq_true rfl | exact bytesF_one _) | (simp_all; done) | (simp_all; omega))) ?_ | refine r_gval rfl rfl rfl rfl (by (first | omega | exact Nat.le_of_ble_eq_true rfl | (simp only [wrap_u8, IntKind.wrap_i64, IntKind.wrap_i32, wrap_u32', wrap_u64', InI]; (repeat' refine And.intro ?_ ?_) <;> omega) | ((repeat' refine And.intro ?_ ?_) <;> first | omega | rfl | exact Nat.le_refl _ | exact Nat.le_of_ble_eq_true rfl | exact bytesF_one _) | (simp_all; done) | (simp_all; omega))) ?_
        | refine r_obj rfl rfl (by (first | omega | exact Nat.le_of_ble_eq_true rfl | (simp only [wrap_u8, IntKind.wrap_i64, IntKind.wrap_i32, wrap_u32', wrap_u64', InI]; (repeat' refine And.intro ?_ ?_) <;> omega) | ((repeat' refine And.intro ?_ ?_) <;> first | omega | rfl | exact Nat.le_refl _ | exact Nat.le_of_ble_eq_true rfl | exact bytesF_one _) | (simp_all; done) | (simp_all; omega))) ?_ | refine r_sto rfl (by (first | omega | exact Nat.le_of_ble_eq_true rfl | (simp only [wrap_u8, IntKind.wrap_i64, IntKind.wrap_i32, wrap_u32', wrap_u64', InI]; (repeat' refine And.intro ?_ ?_) <;> omega) | ((repeat' refine And.intro ?_ ?_) <;> first | omega | rfl | exact Nat.le_refl _ | exact Nat.le_of_ble_eq_true rfl | exact bytesF_one _) | (simp_all; done) | (simp_all; omega))) ?_ | refine r_gobj rfl rfl rfl rfl (by (first | omega | exact Nat.le_of_ble_eq_true rfl | (simp only [wrap_u8, IntKind.wrap_i64, IntKind.wrap_i32, wrap_u32', wrap_u64', InI]; (repeat' refine And.intro ?_ ?_) <;> omega) | ((repeat' refine And.intro ?_ ?_) <;> first | omega | rfl | exact Nat.le_refl _ | exact Nat.le_of_ble_eq_true rfl | exact bytesF_one _) | (simp_all; done) | (simp_all; omega))) ?_
        | refine e_hit rfl ?_ | refine e_miss rfl ?_
        | refine ⟨by kernel_rfl, ?_⟩ | refine x_end rfl ?_ | refine r_gcall (f := 68) rfl rfl rfl rfl Tryd.call68 rfl (word_ctr' _ m rfl (by omega)) ?_ | refine r_gcall (f := 68) rfl rfl rfl rfl Tryd.call68 rfl (word_ctr' _ m8 f8 (by omega)) ?_ | refine r_gcall (f := 68) rfl rfl rfl rfl Tryd.call68 rfl (word_ctr' _ m16 f16 (by omega)) ?_ | refine r_gcall (f := 68) rfl rfl rfl rfl Tryd.call68 rfl (word_ctr' _ m24 f24 (by omega)) ?_ | ((with_reducible refine c_grd ?_); (fail_if_success (refine c_lit true rfl rfl rfl ?_)); (fail_if_success (refine c_lit false rfl rfl rfl ?_)); refine c_split rfl rfl (fun _ => ?_) (fun _ => ?_)))
      · exact ⟨m32, ⟨by omega, hv32 (by omega) ‹_›⟩, by omega, ⟨congrArg D.s f32, trivial⟩, trivial, rfl, by rw [hX]; intro k hk; cases hk⟩
      · exact leaf m _ _ q1 q2 ⟨rfl, trivial⟩
      · exact leaf m _ _ q1 q2 ⟨rfl, trivial⟩
    · exact leaf l9 _ _ (by omega) (hv9 (by omega) ‹_›) ⟨rfl, trivial⟩
    · exact leaf l9 _ _ (by omega) (hv9 (by omega) ‹_›) ⟨rfl, trivial⟩
    · exact leaf l1 _ _ (by omega) hv1 ⟨rfl, trivial⟩
    · exact leaf l1 _ _ (by omega) hv1 ⟨rfl, trivial⟩
  · have hsz := sizes (at' l 0) (by omega) hr.2
    have hF0 : 0 + (at' l 0).toNat * 1 = (at' l 0).toNat := by omega
    rw [← hF0] at hsz
    have hS : IntKind.i64.wrap (bits .and .u8 (firstZ (0 + (at' l 0).toNat * 1)) 7) = firstZ (0 + (at' l 0).toNat * 1) % 8 := by
      have := bits_mask .u8 8 (by decide) wraps_u8 3 (by decide) (firstZ (0 + (at' l 0).toNat * 1)) (by omega) (by omega)
      rw [show (7 : Int) = 2 ^ 3 - 1 by decide, this, IntKind.wrap_i64]
      omega
    have e4 : (2 : Int) ^ Int.toNat 4 = 16 := by decide
    have hA : firstZ (0 + (at' l 0).toNat * 1) / 2 ^ Int.toNat 4 = firstZ (0 + (at' l 0).toNat * 1) / 16 := by rw [e4]
    have hlh : (at' l 0 < 194 ∨ 244 < at' l 0) ∨ (accZ (0 + (firstZ (0 + (at' l 0).toNat * 1) / 2 ^ Int.toNat 4).toNat * 2) = loF (at' l 0) ∧ accZ (0 + (firstZ (0 + (at' l 0).toNat * 1) / 2 ^ Int.toNat 4).toNat * 2 + 1) = hiF (at' l 0)) := by
      rcases hsz with ⟨h, _⟩ | ⟨h, hF⟩ | ⟨h, hF⟩ | ⟨h, hF⟩ | ⟨h, hF⟩ | ⟨h, hF⟩ | ⟨h, hF⟩ | ⟨h, hF⟩
      · exact .inl h
      all_goals
        right
        rw [hF]
        unfold loF hiF
        refine ⟨?_, ?_⟩ <;> (repeat' split) <;> first | rfl | (exfalso; omega)
    have f2 := cut_from l 2 2 rfl
    have f3 := cut_from l 3 3 rfl
    have f4 := cut_from l 4 4 rfl
    have good : ∀ k : Nat, oneL l = k → 2 ≤ k → k ≤ l.length → ∀ (fr : Fr) (ow : Ow), leFr fr [(0, .s (l.drop k))] →
        ∃ y : List UInt8, (y.length ≤ l0.length ∧ validL y = validL l0) ∧ y.length < l.length ∧ Le X fr ow [(0, .s y)] [] := fun k h1 h2 h3 fr ow h4 => by
      have hlen2 : (l.drop k).length = l.length - k := List.length_drop
      refine ⟨l.drop k, ⟨by omega, ?_⟩, by omega, h4, trivial, rfl, by rw [hX]; intro k hk; cases hk⟩
      rw [← g2, validL_step hlen (by omega), h1]
    repeat' (first
      | with_reducible refine t_seq ?_ | with_reducible refine t_region ?_ | with_reducible refine c_nil ?_ | with_reducible refine n_then ?_
      | with_reducible refine t_ret ?_ | with_reducible refine t_skip ?_ | with_reducible refine t_exit ?_ | with_reducible refine t_block ?_
      | with_reducible refine n_block ?_ | with_reducible refine e_then ?_ | with_reducible refine x_then ?_ | with_reducible refine x_block ?_ | with_reducible refine t_draw ?_
      | refine r_val rfl rfl True.intro ?_ | refine r_gskip rfl rfl rfl ?_ | refine r_gskip2 rfl rfl rfl ?_ | refine r_gval rfl rfl rfl rfl True.intro ?_
      | refine t_true rfl ?_ | refine t_false rfl ?_
      | ((first | refine t_cond_d rfl (fun _ => ?_) (fun _ => ?_) | refine t_cond_i rfl (fun _ => ?_) (fun _ => ?_) | refine t_cond_j rfl (fun _ => ?_) (fun _ => ?_) | refine t_cond_s rfl (fun _ => ?_) (fun _ => ?_) | refine t_cond_n rfl (fun _ => ?_) (fun _ => ?_) | refine t_cond rfl (fun _ => ?_) (fun _ => ?_) | refine c_split_d rfl rfl (fun _ => ?_) (fun _ => ?_) | refine c_split_i rfl rfl (fun _ => ?_) (fun _ => ?_) | refine c_split_j rfl rfl (fun _ => ?_) (fun _ => ?_) | refine c_split_s rfl rfl (fun _ => ?_) (fun _ => ?_) | refine c_split_n rfl rfl (fun _ => ?_) (fun _ => ?_)) <;> try (first | (rename_i hz; exact Bool.noConfusion (show true = false from hz)) | (rename_i hz; exact Bool.noConfusion (show false = true from hz)) | (exfalso; omega)))
      | refine r_val rfl rfl (by (first | (rw [hA]; omega) | omega | exact Nat.le_of_ble_eq_true rfl | (simp only [wrap_u8, IntKind.wrap_i64, IntKind.wrap_i32, wrap_u32', wrap_u64', InI]; (repeat' refine And.intro ?_ ?_) <;> omega) | ((repeat' refine And.intro ?_ ?_) <;> first | omega | rfl | exact Nat.le_refl _ | exact Nat.le_of_ble_eq_true rfl | exact bytesF_one _) | (simp_all; done) | (simp_all; omega))) ?_ | refine r_gval rfl rfl rfl rfl (by (first | (rw [hA]; omega) | omega | exact Nat.le_of_ble_eq_true rfl | (simp only [wrap_u8, IntKind.wrap_i64, IntKind.wrap_i32, wrap_u32', wrap_u64', InI]; (repeat' refine And.intro ?_ ?_) <;> omega) | ((repeat' refine And.intro ?_ ?_) <;> first | omega | rfl | exact Nat.le_refl _ | exact Nat.le_of_ble_eq_true rfl | exact bytesF_one _) | (simp_all; done) | (simp_all; omega))) ?_
      | refine r_obj rfl rfl (by (first | (rw [hA]; omega) | omega | exact Nat.le_of_ble_eq_true rfl | (simp only [wrap_u8, IntKind.wrap_i64, IntKind.wrap_i32, wrap_u32', wrap_u64', InI]; (repeat' refine And.intro ?_ ?_) <;> omega) | ((repeat' refine And.intro ?_ ?_) <;> first | omega | rfl | exact Nat.le_refl _ | exact Nat.le_of_ble_eq_true rfl | exact bytesF_one _) | (simp_all; done) | (simp_all; omega))) ?_ | refine r_sto rfl (by (first | (rw [hA]; omega) | omega | exact Nat.le_of_ble_eq_true rfl | (simp only [wrap_u8, IntKind.wrap_i64, IntKind.wrap_i32, wrap_u32', wrap_u64', InI]; (repeat' refine And.intro ?_ ?_) <;> omega) | ((repeat' refine And.intro ?_ ?_) <;> first | omega | rfl | exact Nat.le_refl _ | exact Nat.le_of_ble_eq_true rfl | exact bytesF_one _) | (simp_all; done) | (simp_all; omega))) ?_ | refine r_gobj rfl rfl rfl rfl (by (first | (rw [hA]; omega) | omega | exact Nat.le_of_ble_eq_true rfl | (simp only [wrap_u8, IntKind.wrap_i64, IntKind.wrap_i32, wrap_u32', wrap_u64', InI]; (repeat' refine And.intro ?_ ?_) <;> omega) | ((repeat' refine And.intro ?_ ?_) <;> first | omega | rfl | exact Nat.le_refl _ | exact Nat.le_of_ble_eq_true rfl | exact bytesF_one _) | (simp_all; done) | (simp_all; omega))) ?_
      | refine e_hit rfl ?_ | refine e_miss rfl ?_
      | refine ⟨by kernel_rfl, ?_⟩ | refine x_end rfl ?_ | ((with_reducible refine c_grd ?_); (fail_if_success (refine c_lit true rfl rfl rfl ?_)); (fail_if_success (refine c_lit false rfl rfl rfl ?_)); refine c_split rfl rfl (fun _ => ?_) (fun _ => ?_)))
    all_goals
      first
        | (rw [← g2, validL_bad hlen (by rw [oneL_eq hasc]; (repeat' split) <;> omega)]; done)
        | exact good 2 (by rw [oneL_eq hasc]; (repeat' split) <;> omega) (by omega) (by omega) _ _ ⟨congrArg D.s f2, trivial⟩
        | exact good 3 (by rw [oneL_eq hasc]; (repeat' split) <;> omega) (by omega) (by omega) _ _ ⟨congrArg D.s f3, trivial⟩
        | exact good 4 (by rw [oneL_eq hasc]; (repeat' split) <;> omega) (by omega) (by omega) _ _ ⟨congrArg D.s f4, trivial⟩

end Go.Proofs.YtinjdlckhmkmaaaDoor.Flow

/- UTF: Valid and Hex of the program and of the reference. -/
namespace Go.Proofs.YtinjdlckhmkmaaaDoor.Flow
open Go

end Go.Proofs.YtinjdlckhmkmaaaDoor.Flow

/- UTF: the program: what is behind a backslash; a text in quotes. -/
namespace Go.Proofs.YtinjdlckhmkmaaaDoor.Flow
open Go

/-- What a letter behind a backslash stands for, and whether it may stand there. -/
def escV (c : Int) : Int := if c = 98 then 8 else if c = 102 then 12 else if c = 110 then 10 else if c = 114 then 13 else if c = 116 then 9 else c
def escE (c : Int) : Int := if c = 98 ∨ c = 102 ∨ c = 110 ∨ c = 114 ∨ c = 116 ∨ c = 34 ∨ c = 92 ∨ c = 47 then 0 else 3
/-- Behind a backslash: the place behind, what came, what is wrong. -/
def escP (s : List UInt8) (i : Int) (o : List UInt8) : Int × List UInt8 × Int :=
  if i < s.length then (if at' s i = 117 then codeP s (i + 1) o else (i + 1, o ++ [by8 (escV (at' s i))], escE (at' s i))) else (i, o ++ [0], 2)

end Go.Proofs.YtinjdlckhmkmaaaDoor.Flow

/- UTF: the program: a text in quotes. -/
namespace Go.Proofs.YtinjdlckhmkmaaaDoor.Flow
open Go

/-- Inside of quotes: the text, the place behind, what is wrong. -/
def unqG (s : List UInt8) : Nat → Int → List UInt8 → List UInt8 × Int × Int
  | 0, _, _ => ([], 0, 2)
  | n + 1, i, o =>
    if i < s.length then
      (if at' s i = 34 then (if validL o = true then (o, i + 1, 0) else ([], 0, 3))
      else if at' s i = 92 then (if (escP s (i + 1) o).2.2 = 0 then unqG s n (escP s (i + 1) o).1 (escP s (i + 1) o).2.1 else ([], 0, (escP s (i + 1) o).2.2))
      else if at' s i < 32 then ([], 0, 3)
      else unqG s n (i + 1) (o ++ [by8 (at' s i)]))
    else ([], 0, 2)

def unqF (s : List UInt8) (i : Int) : List UInt8 × Int × Int :=
  if i < 0 ∨ s.length < i then ([], 0, 8)
  else if (mustF s i 0 34).2 = 0 then unqG s (s.length + 1 - (mustF s i 0 34).1.toNat) (mustF s i 0 34).1 [] else ([], 0, (mustF s i 0 34).2)

section
variable {s : List UInt8} {n : Nat} {i : Int} {o : List UInt8}
theorem unqG_end (h : ¬ i < s.length) : unqG s (n + 1) i o = ([], 0, 2) := by rw [unqG, if_neg h]
theorem unqG_quote (h : i < s.length) (h2 : at' s i = 34) (h3 : validL o = true) : unqG s (n + 1) i o = (o, i + 1, 0) := by rw [unqG, if_pos h, if_pos h2, if_pos h3]
theorem unqG_bad (h : i < s.length) (h2 : at' s i = 34) (h3 : validL o = false) : unqG s (n + 1) i o = ([], 0, 3) := by rw [unqG, if_pos h, if_pos h2, if_neg (by rw [h3]; decide)]
theorem unqG_esc (h : i < s.length) (h2 : at' s i = 92) : unqG s (n + 1) i o = if (escP s (i + 1) o).2.2 = 0 then unqG s n (escP s (i + 1) o).1 (escP s (i + 1) o).2.1 else ([], 0, (escP s (i + 1) o).2.2) := by
  rw [unqG, if_pos h, if_neg (by omega), if_pos h2]
theorem unqG_low (h : i < s.length) (h2 : ¬ at' s i = 34) (h3 : ¬ at' s i = 92) (h4 : at' s i < 32) : unqG s (n + 1) i o = ([], 0, 3) := by rw [unqG, if_pos h, if_neg h2, if_neg h3, if_pos h4]
theorem unqG_more (h : i < s.length) (h2 : ¬ at' s i = 34) (h3 : ¬ at' s i = 92) (h4 : ¬ at' s i < 32) : unqG s (n + 1) i o = unqG s n (i + 1) (o ++ [by8 (at' s i)]) := by rw [unqG, if_pos h, if_neg h2, if_neg h3, if_neg h4]
end

end Go.Proofs.YtinjdlckhmkmaaaDoor.Flow

/- UTF: the page's example; UtfValid's function. -/
namespace Go.Proofs.YtinjdlckhmkmaaaDoor.Flow
open Go

end Go.Proofs.YtinjdlckhmkmaaaDoor.Flow

/- UTF: what the reference reads behind a backslash and u, beside what the program reads. -/
namespace Go.Proofs.YtinjdlckhmkmaaaDoor.Flow
open Go

/-- The reference: a code point, the place behind, what is wrong. -/
def codeR (s : List UInt8) (i : Int) : Int × Int × Int :=
  if (fourG s 4 0 i).2.2 = 0 then
    (if 56320 ≤ (fourG s 4 0 i).1 ∧ (fourG s 4 0 i).1 < 57344 then (0, 0, 3)
    else if (fourG s 4 0 i).1 < 55296 ∨ 57344 ≤ (fourG s 4 0 i).1 then ((fourG s 4 0 i).1, i + 4, 0)
    else if i + 4 < s.length then
      (if at' s (i + 4) = 92 then
        (if i + 5 < s.length then
          (if at' s (i + 5) = 117 then
            (if (fourG s 4 0 (i + 6)).2.2 = 0 then
              (if (fourG s 4 0 (i + 6)).1 < 56320 ∨ 57344 ≤ (fourG s 4 0 (i + 6)).1 then (0, 0, 3) else (pairF (fourG s 4 0 i).1 (fourG s 4 0 (i + 6)).1, i + 10, 0))
            else (0, 0, (fourG s 4 0 (i + 6)).2.2))
          else (0, 0, 3))
        else (0, 0, 2))
      else (0, 0, 3))
    else (0, 0, 2))
  else (0, 0, (fourG s 4 0 i).2.2)

end Go.Proofs.YtinjdlckhmkmaaaDoor.Flow

/- UTF: a text in quotes, and read again. -/
namespace Go.Proofs.YtinjdlckhmkmaaaDoor.Flow
open Go

/-- A digit as a letter. -/
def hexD (n : Int) : UInt8 := by8 (if n < 10 then 48 + n else 87 + n)

/-- A byte as JSON writes it. -/
def qI (n : Int) : List UInt8 :=
  if n = 8 then [92, 98] else if n = 9 then [92, 116] else if n = 10 then [92, 110] else if n = 12 then [92, 102] else if n = 13 then [92, 114]
  else if n = 34 then [92, 34] else if n = 92 then [92, 92] else if n < 32 then [92, 117, 48, 48, hexD (n / 16), hexD (n % 16)] else [by8 n]

def qL : List UInt8 → List UInt8
  | [] => []
  | c :: r => qI (c.toNat : Int) ++ qL r

def quoteL (s : List UInt8) : List UInt8 := if validL s = true then [34] ++ qL s ++ [34] else []

end Go.Proofs.YtinjdlckhmkmaaaDoor.Flow

/- UTF: the reference: four digits, a code point, its bytes. -/
namespace Go.Proofs.YtinjdlckhmkmaaaDoor.Flow
open Go

end Go.Proofs.YtinjdlckhmkmaaaDoor.Flow

/- UTF: the reference: a code point in one part or two. -/
namespace Go.Proofs.YtinjdlckhmkmaaaDoor.Flow
open Go

end Go.Proofs.YtinjdlckhmkmaaaDoor.Flow

/- UTF: the reference: a text in quotes. -/
namespace Go.Proofs.YtinjdlckhmkmaaaDoor.Flow
open Go

abbrev escFrom : List UInt8 := [34, 92, 47, 98, 102, 110, 114, 116]
abbrev escTo : List UInt8 := [34, 92, 47, 8, 12, 10, 13, 9]

/-- The last of so many letters that is this one; -1: none. -/
def whichF (k : Int) : Nat → Int
  | 0 => -1
  | j + 1 => if at' escFrom j = k then j else whichF k j

end Go.Proofs.YtinjdlckhmkmaaaDoor.Flow

/- UTF: UtfUnquotes' function. -/
namespace Go.Proofs.YtinjdlckhmkmaaaDoor.Flow
open Go

end Go.Proofs.YtinjdlckhmkmaaaDoor.Flow

/- UTF: the program: a text as JSON writes it. -/
namespace Go.Proofs.YtinjdlckhmkmaaaDoor.Flow
open Go

abbrev hexS16 : List UInt8 := ({ data := #[48, 49, 50, 51, 52, 53, 54, 55, 56, 57, 97, 98, 99, 100, 101, 102] } : ByteArray).data.toList

theorem p4 : (2 : Int) ^ Int.toNat 4 = 16 := by decide

section
variable {n : Int}
theorem qI_8 (h : n = 8) : qI n = [92, 98] := if_pos h
theorem qI_9 (h : n = 9) : qI n = [92, 116] := by subst h; rfl
theorem qI_10 (h : n = 10) : qI n = [92, 110] := by subst h; rfl
theorem qI_12 (h : n = 12) : qI n = [92, 102] := by subst h; rfl
theorem qI_13 (h : n = 13) : qI n = [92, 114] := by subst h; rfl
theorem qI_34 (h : n = 34) : qI n = [92, 34] := by subst h; rfl
theorem qI_92 (h : n = 92) : qI n = [92, 92] := by subst h; rfl
theorem qI_low (c8 : ¬ n = 8) (c9 : ¬ n = 9) (c10 : ¬ n = 10) (c12 : ¬ n = 12) (c13 : ¬ n = 13) (h : n < 32) : qI n = [92, 117, 48, 48, hexD (n / 16), hexD (n % 16)] := by
  unfold qI
  rw [if_neg c8, if_neg c9, if_neg c10, if_neg c12, if_neg c13, if_neg (by omega), if_neg (by omega), if_pos h]
theorem qI_one (c34 : ¬ n = 34) (c92 : ¬ n = 92) (h : ¬ n < 32) : qI n = [by8 n] := by
  unfold qI
  rw [if_neg (by omega), if_neg (by omega), if_neg (by omega), if_neg (by omega), if_neg (by omega), if_neg c34, if_neg c92, if_neg h]
end

end Go.Proofs.YtinjdlckhmkmaaaDoor.Flow

/- REPORT: texts of places, points and values, and that unlike places and points have unlike texts: plain. -/
namespace Go.Proofs.YtinjdlckhmkmaaaDoor.Flow
open Go

def ptT (p : Int × Int) : List UInt8 := [Lib.itoa p.1, [44], Lib.itoa p.2].flatten
def placeT (z x y : Int) : List UInt8 := [Lib.itoa z, [47], Lib.itoa x, [47], Lib.itoa y].flatten
def pathT (l : List (Int × Int)) : List UInt8 := Lib.join (l.map ptT) [32]

theorem itoa_lenI (n : Int) (h0 : -9223372036854775808 ≤ n) (h1 : n ≤ 9223372036854775807) : 1 ≤ (Lib.itoa n).length ∧ (Lib.itoa n).length ≤ 20 := by
  have h1 := dec_len n.natAbs 19 (by have : (10 : Nat) ^ 19 = 10000000000000000000 := by decide
                                     omega) (by omega)
  have h2 := dec_len1 n.natAbs
  rw [itoa_sg, List.length_append]
  have h3 : (sgL (decide (n < 0))).length ≤ 1 := by
    unfold sgL
    split <;> simp
  omega

theorem ptT_len {p : Int × Int} (h1 : -9223372036854775808 ≤ p.1 ∧ p.1 ≤ 9223372036854775807) (h2 : -9223372036854775808 ≤ p.2 ∧ p.2 ≤ 9223372036854775807) : (ptT p).length ≤ 43 := by
  have := itoa_lenI p.1 h1.1 h1.2
  have := itoa_lenI p.2 h2.1 h2.2
  unfold ptT
  simp only [List.flatten_cons, List.flatten_nil, List.append_nil, List.length_append, List.length_cons, List.length_nil]
  omega

theorem join_plain (xs : List (List UInt8)) : Lib.join xs [] = xs.flatten := by
  cases xs with
  | nil => rfl
  | cons x xs =>
    rw [Lib.join_cons, Lib.joinTail]
    simp

/-- A value's text. -/
def valT (k : Int) (s : List UInt8) (b : Nat) : List UInt8 :=
  if valR k (validL s) b = false then [63] else if k = 1 then quoteL s else if k = 2 then 102 :: hxL b 8 else if k = 3 then 100 :: hxL b 16 else (keyF k s (validL s) b).1

end Go.Proofs.YtinjdlckhmkmaaaDoor.Flow

/- DEC: both texts, of any decimal. -/
namespace Go.Proofs.YtinjdlckhmkmaaaDoor.Flow
open Go

theorem rtext_zero : Ctr Tryd.prog 57 [dcD false [] 0] (.s [48]) := by
  have c1 := rright_ctr false [] 0 (by decide)
  have hr : rightB false [] 0 = true := by decide
  rw [hr] at c1
  refine r_fun Tryd.func57 rfl Tryd.ntmps57 Tryd.results57 rfl rfl fun X hL hX => ?_
  repeat' (first
    | with_reducible refine t_seq ?_ | with_reducible refine t_region ?_ | with_reducible refine c_nil ?_ | with_reducible refine n_then ?_
    | with_reducible refine t_ret ?_ | with_reducible refine t_skip ?_ | with_reducible refine t_exit ?_ | with_reducible refine t_block ?_
    | with_reducible refine n_block ?_ | with_reducible refine e_then ?_ | with_reducible refine x_then ?_ | with_reducible refine x_block ?_ | with_reducible refine t_draw ?_
    | refine r_val rfl rfl True.intro ?_ | refine r_gskip rfl rfl rfl ?_ | refine r_gskip2 rfl rfl rfl ?_ | refine r_gval rfl rfl rfl rfl True.intro ?_
    | refine t_true rfl ?_ | refine t_false rfl ?_
    | ((first | refine t_cond_d rfl (fun _ => ?_) (fun _ => ?_) | refine t_cond_i rfl (fun _ => ?_) (fun _ => ?_) | refine t_cond_j rfl (fun _ => ?_) (fun _ => ?_) | refine t_cond_s rfl (fun _ => ?_) (fun _ => ?_) | refine t_cond_n rfl (fun _ => ?_) (fun _ => ?_) | refine t_cond rfl (fun _ => ?_) (fun _ => ?_) | refine c_split_d rfl rfl (fun _ => ?_) (fun _ => ?_) | refine c_split_i rfl rfl (fun _ => ?_) (fun _ => ?_) | refine c_split_j rfl rfl (fun _ => ?_) (fun _ => ?_) | refine c_split_s rfl rfl (fun _ => ?_) (fun _ => ?_) | refine c_split_n rfl rfl (fun _ => ?_) (fun _ => ?_)) <;> try (first | (rename_i hz; exact Bool.noConfusion (show true = false from hz)) | (rename_i hz; exact Bool.noConfusion (show false = true from hz)) | (exfalso; omega)))
    | refine r_val rfl rfl (by (first | omega | exact Nat.le_of_ble_eq_true rfl | (simp only [wrap_u8, IntKind.wrap_i64, IntKind.wrap_i32, wrap_u32', wrap_u64', InI]; (repeat' refine And.intro ?_ ?_) <;> omega) | ((repeat' refine And.intro ?_ ?_) <;> first | omega | rfl | exact Nat.le_refl _ | exact Nat.le_of_ble_eq_true rfl | exact bytesF_one _) | (simp_all; done) | (simp_all; omega))) ?_ | refine r_gval rfl rfl rfl rfl (by (first | omega | exact Nat.le_of_ble_eq_true rfl | (simp only [wrap_u8, IntKind.wrap_i64, IntKind.wrap_i32, wrap_u32', wrap_u64', InI]; (repeat' refine And.intro ?_ ?_) <;> omega) | ((repeat' refine And.intro ?_ ?_) <;> first | omega | rfl | exact Nat.le_refl _ | exact Nat.le_of_ble_eq_true rfl | exact bytesF_one _) | (simp_all; done) | (simp_all; omega))) ?_
    | refine r_obj rfl rfl (by (first | omega | exact Nat.le_of_ble_eq_true rfl | (simp only [wrap_u8, IntKind.wrap_i64, IntKind.wrap_i32, wrap_u32', wrap_u64', InI]; (repeat' refine And.intro ?_ ?_) <;> omega) | ((repeat' refine And.intro ?_ ?_) <;> first | omega | rfl | exact Nat.le_refl _ | exact Nat.le_of_ble_eq_true rfl | exact bytesF_one _) | (simp_all; done) | (simp_all; omega))) ?_ | refine r_sto rfl (by (first | omega | exact Nat.le_of_ble_eq_true rfl | (simp only [wrap_u8, IntKind.wrap_i64, IntKind.wrap_i32, wrap_u32', wrap_u64', InI]; (repeat' refine And.intro ?_ ?_) <;> omega) | ((repeat' refine And.intro ?_ ?_) <;> first | omega | rfl | exact Nat.le_refl _ | exact Nat.le_of_ble_eq_true rfl | exact bytesF_one _) | (simp_all; done) | (simp_all; omega))) ?_ | refine r_gobj rfl rfl rfl rfl (by (first | omega | exact Nat.le_of_ble_eq_true rfl | (simp only [wrap_u8, IntKind.wrap_i64, IntKind.wrap_i32, wrap_u32', wrap_u64', InI]; (repeat' refine And.intro ?_ ?_) <;> omega) | ((repeat' refine And.intro ?_ ?_) <;> first | omega | rfl | exact Nat.le_refl _ | exact Nat.le_of_ble_eq_true rfl | exact bytesF_one _) | (simp_all; done) | (simp_all; omega))) ?_
    | refine e_hit rfl ?_ | refine e_miss rfl ?_
    | refine ⟨by kernel_rfl, ?_⟩ | refine x_end rfl ?_ | refine r_call (f := 75) rfl rfl Tryd.call75 rfl c1 ?_ | ((with_reducible refine c_grd ?_); (fail_if_success (refine c_lit true rfl rfl rfl ?_)); (fail_if_success (refine c_lit false rfl rfl rfl ?_)); refine c_split rfl rfl (fun _ => ?_) (fun _ => ?_)))
  all_goals rfl

theorem rtext_ctr (neg : Bool) (s : List UInt8) (e : Int) (hs : s.length ≤ 1048576) : Ctr Tryd.prog 57 [dcD neg s e] (.s (textF neg s e)) := by
  by_cases h : RightP neg s e
  · by_cases h0 : s.length = 0
    · obtain ⟨rfl, rfl⟩ := (right_nil h0).1 h
      obtain rfl := len_nil h0
      exact rtext_zero
    · have := rtext_ok neg s e h h0
      unfold textF
      rw [if_neg (fun h2 => h2 h), if_neg h0]
      exact this
  · have := rtext_bad neg s e hs h
    unfold textF
    rw [if_pos h]
    exact this

end Go.Proofs.YtinjdlckhmkmaaaDoor.Flow

/- WHOLE: whole numbers among the bits, by both; their texts. -/
namespace Go.Proofs.YtinjdlckhmkmaaaDoor.Flow
open Go

theorem whF_zero (e : Int) : whF (0, e) = some 0 := rfl
theorem whF_low {m : Nat} {e : Int} (h : m ≠ 0) (he : e < 0) : whF (m, e) = none := by
  unfold whF
  rw [if_neg h, if_pos he]
theorem whF_big {m : Nat} {e : Int} (h : m ≠ 0) (he : ¬ e < 0) (hb : 9007199254740992 < m * 2 ^ e.toNat) : whF (m, e) = none := by
  unfold whF
  rw [if_neg h, if_neg he, if_pos hb]
theorem whF_ok {m : Nat} {e : Int} (h : m ≠ 0) (he : ¬ e < 0) (hb : ¬ 9007199254740992 < m * 2 ^ e.toNat) : whF (m, e) = some (m * 2 ^ e.toNat) := by
  unfold whF
  rw [if_neg h, if_neg he, if_neg hb]

theorem wholeF_inf {b : Nat} (h : xP b = 2047) : wholeF b = none := by unfold wholeF; rw [if_pos h]
theorem wholeF_fin {b : Nat} (h : ¬ xP b = 2047) : wholeF b = (whF (hv (mB (b % 9223372036854775808)) (eB (b % 9223372036854775808)))).map fun n => if 9223372036854775808 ≤ b then -(n : Int) else n := by
  unfold wholeF
  rw [if_neg h]
  split
  · rename_i h2
    rw [h2]
    rfl
  · rename_i n h2
    rw [h2]
    rfl

end Go.Proofs.YtinjdlckhmkmaaaDoor.Flow

/- DEC: the reference: a number times a power of ten. -/
namespace Go.Proofs.YtinjdlckhmkmaaaDoor.Flow
open Go

/-- The last digit of a number, whatever its sign. -/
theorem tmod_abs (m : Int) : (if m.tmod 10 < 0 then -(m.tmod 10) else m.tmod 10) = ((m.natAbs % 10 : Nat) : Int) := by
  by_cases h : 0 ≤ m
  · obtain ⟨k, rfl⟩ := Int.eq_ofNat_of_zero_le h
    rw [Int.tmod_eq_emod_of_nonneg h]
    simp only [Int.natAbs_natCast]
    rw [if_neg (by omega)]
    omega
  · obtain ⟨k, hk⟩ := Int.eq_ofNat_of_zero_le (show 0 ≤ -m by omega)
    obtain rfl : m = -(k : Int) := by omega
    rw [Int.neg_tmod, Int.tmod_eq_emod_of_nonneg (by omega)]
    simp only [Int.natAbs_neg, Int.natAbs_natCast]
    split <;> omega

theorem tdiv_abs (m : Int) : (m.tdiv 10).natAbs = m.natAbs / 10 := by
  have h1 : (m.tdiv 10).natAbs = m.natAbs / (10 : Int).natAbs := Int.natAbs_tdiv m 10
  exact h1

theorem rof_ctr (n e : Int) (h0 : -9223372036854775808 ≤ n) (h1 : n ≤ 9223372036854775807) : Ctr Tryd.prog 58 [.i .i64 n, .i .i64 e] (dcV (ofF n e)) := by
  have hlD : (dig0 n.natAbs).length ≤ 19 := by
    unfold dig0
    split
    · simp
    · exact dec_len _ 19 (by omega) (by omega)
  have c2 := fun h : -2000 ≤ e ∧ e ≤ 2000 => rnorm_ctr (decide (n < 0)) (dig0 n.natAbs) e (by omega) (by omega) (by omega)
  rw [norm_dig0] at c2
  generalize hR : ofF n e = R
  unfold ofF at hR
  replace hR := fun _ : Unit => hR.symm
  generalize normF (decide (n < 0)) (Lib.decDigits n.natAbs) e = N at *
  refine r_fun Tryd.func58 rfl Tryd.ntmps58 Tryd.results58 rfl rfl fun X hL hX => ?_
  repeat' (first
    | with_reducible refine t_seq ?_ | with_reducible refine t_region ?_ | with_reducible refine c_nil ?_ | with_reducible refine n_then ?_
    | with_reducible refine t_ret ?_ | with_reducible refine t_skip ?_ | with_reducible refine t_exit ?_ | with_reducible refine t_block ?_
    | with_reducible refine n_block ?_ | with_reducible refine e_then ?_ | with_reducible refine x_then ?_ | with_reducible refine x_block ?_ | with_reducible refine t_draw ?_
    | refine r_val rfl rfl True.intro ?_ | refine r_gskip rfl rfl rfl ?_ | refine r_gskip2 rfl rfl rfl ?_ | refine r_gval rfl rfl rfl rfl True.intro ?_
    | refine t_true rfl ?_ | refine t_false rfl ?_
    | ((first | refine t_cond_d rfl (fun _ => ?_) (fun _ => ?_) | refine t_cond_i rfl (fun _ => ?_) (fun _ => ?_) | refine t_cond_j rfl (fun _ => ?_) (fun _ => ?_) | refine t_cond_s rfl (fun _ => ?_) (fun _ => ?_) | refine t_cond_n rfl (fun _ => ?_) (fun _ => ?_) | refine t_cond rfl (fun _ => ?_) (fun _ => ?_) | refine c_split_d rfl rfl (fun _ => ?_) (fun _ => ?_) | refine c_split_i rfl rfl (fun _ => ?_) (fun _ => ?_) | refine c_split_j rfl rfl (fun _ => ?_) (fun _ => ?_) | refine c_split_s rfl rfl (fun _ => ?_) (fun _ => ?_) | refine c_split_n rfl rfl (fun _ => ?_) (fun _ => ?_)) <;> try (first | (rename_i hz; exact Bool.noConfusion (show true = false from hz)) | (rename_i hz; exact Bool.noConfusion (show false = true from hz)) | (exfalso; omega)))
    | refine r_val rfl rfl (by (first | omega | exact Nat.le_of_ble_eq_true rfl | (simp only [wrap_u8, IntKind.wrap_i64, IntKind.wrap_i32, wrap_u32', wrap_u64', InI]; (repeat' refine And.intro ?_ ?_) <;> omega) | ((repeat' refine And.intro ?_ ?_) <;> first | omega | rfl | exact Nat.le_refl _ | exact Nat.le_of_ble_eq_true rfl | exact bytesF_one _) | (simp_all; done) | (simp_all; omega))) ?_ | refine r_gval rfl rfl rfl rfl (by (first | omega | exact Nat.le_of_ble_eq_true rfl | (simp only [wrap_u8, IntKind.wrap_i64, IntKind.wrap_i32, wrap_u32', wrap_u64', InI]; (repeat' refine And.intro ?_ ?_) <;> omega) | ((repeat' refine And.intro ?_ ?_) <;> first | omega | rfl | exact Nat.le_refl _ | exact Nat.le_of_ble_eq_true rfl | exact bytesF_one _) | (simp_all; done) | (simp_all; omega))) ?_
    | refine r_obj rfl rfl (by (first | omega | exact Nat.le_of_ble_eq_true rfl | (simp only [wrap_u8, IntKind.wrap_i64, IntKind.wrap_i32, wrap_u32', wrap_u64', InI]; (repeat' refine And.intro ?_ ?_) <;> omega) | ((repeat' refine And.intro ?_ ?_) <;> first | omega | rfl | exact Nat.le_refl _ | exact Nat.le_of_ble_eq_true rfl | exact bytesF_one _) | (simp_all; done) | (simp_all; omega))) ?_ | refine r_sto rfl (by (first | omega | exact Nat.le_of_ble_eq_true rfl | (simp only [wrap_u8, IntKind.wrap_i64, IntKind.wrap_i32, wrap_u32', wrap_u64', InI]; (repeat' refine And.intro ?_ ?_) <;> omega) | ((repeat' refine And.intro ?_ ?_) <;> first | omega | rfl | exact Nat.le_refl _ | exact Nat.le_of_ble_eq_true rfl | exact bytesF_one _) | (simp_all; done) | (simp_all; omega))) ?_ | refine r_gobj rfl rfl rfl rfl (by (first | omega | exact Nat.le_of_ble_eq_true rfl | (simp only [wrap_u8, IntKind.wrap_i64, IntKind.wrap_i32, wrap_u32', wrap_u64', InI]; (repeat' refine And.intro ?_ ?_) <;> omega) | ((repeat' refine And.intro ?_ ?_) <;> first | omega | rfl | exact Nat.le_refl _ | exact Nat.le_of_ble_eq_true rfl | exact bytesF_one _) | (simp_all; done) | (simp_all; omega))) ?_
    | refine e_hit rfl ?_ | refine e_miss rfl ?_
    | refine ⟨by kernel_rfl, ?_⟩ | refine x_end rfl ?_ | ((with_reducible refine c_grd ?_); (fail_if_success (refine c_lit true rfl rfl rfl ?_)); (fail_if_success (refine c_lit false rfl rfl rfl ?_)); refine c_split rfl rfl (fun _ => ?_) (fun _ => ?_)))
  refine T.loop hL (fun y : Int × List UInt8 => [(0, .i .i64 n), (1, .i .i64 e), (4, .pv 4 0), (5, .s y.2), (6, .i .i64 y.1)]) (fun _ => [(4, .var [.b false, .s [], .i .i64 0])]) (fun y => dig0 n.natAbs = dig0 y.1.natAbs ++ y.2 ∧ InI y.1) (fun y => y.1.natAbs) (n, [])
    ⟨by simp, h0, h1⟩ ⟨⟨rfl, rfl, rfl, rfl, rfl, trivial⟩, ⟨rfl, trivial⟩, rfl, by rw [hX]; intro k hk; cases hk⟩ ?_
  rintro ⟨m, s⟩ ⟨g1, g2⟩
  dsimp only at g1 g2 ⊢
  by_cases hz : m = 0
  · subst hz
    have g1 : dig0 n.natAbs = s := g1
    have g1 := fun _ : Unit => g1
    rw [g1 ()] at c2
    clear g2
    repeat' (first
      | with_reducible refine t_seq ?_ | with_reducible refine t_region ?_ | with_reducible refine c_nil ?_ | with_reducible refine n_then ?_
      | with_reducible refine t_ret ?_ | with_reducible refine t_skip ?_ | with_reducible refine t_exit ?_ | with_reducible refine t_block ?_
      | with_reducible refine n_block ?_ | with_reducible refine e_then ?_ | with_reducible refine x_then ?_ | with_reducible refine x_block ?_ | with_reducible refine t_draw ?_
      | refine r_val rfl rfl True.intro ?_ | refine r_gskip rfl rfl rfl ?_ | refine r_gskip2 rfl rfl rfl ?_ | refine r_gval rfl rfl rfl rfl True.intro ?_
      | refine t_true rfl ?_ | refine t_false rfl ?_
      | ((first | refine t_cond_d rfl (fun _ => ?_) (fun _ => ?_) | refine t_cond_i rfl (fun _ => ?_) (fun _ => ?_) | refine t_cond_j rfl (fun _ => ?_) (fun _ => ?_) | refine t_cond_s rfl (fun _ => ?_) (fun _ => ?_) | refine t_cond_n rfl (fun _ => ?_) (fun _ => ?_) | refine t_cond rfl (fun _ => ?_) (fun _ => ?_) | refine c_split_d rfl rfl (fun _ => ?_) (fun _ => ?_) | refine c_split_i rfl rfl (fun _ => ?_) (fun _ => ?_) | refine c_split_j rfl rfl (fun _ => ?_) (fun _ => ?_) | refine c_split_s rfl rfl (fun _ => ?_) (fun _ => ?_) | refine c_split_n rfl rfl (fun _ => ?_) (fun _ => ?_)) <;> try (first | (rename_i hz; exact Bool.noConfusion (show true = false from hz)) | (rename_i hz; exact Bool.noConfusion (show false = true from hz)) | (exfalso; omega)))
      | refine r_val rfl rfl (by (first | omega | exact Nat.le_of_ble_eq_true rfl | (simp only [wrap_u8, IntKind.wrap_i64, IntKind.wrap_i32, wrap_u32', wrap_u64', InI]; (repeat' refine And.intro ?_ ?_) <;> omega) | ((repeat' refine And.intro ?_ ?_) <;> first | omega | rfl | exact Nat.le_refl _ | exact Nat.le_of_ble_eq_true rfl | exact bytesF_one _) | (simp_all; done) | (simp_all; omega))) ?_ | refine r_gval rfl rfl rfl rfl (by (first | omega | exact Nat.le_of_ble_eq_true rfl | (simp only [wrap_u8, IntKind.wrap_i64, IntKind.wrap_i32, wrap_u32', wrap_u64', InI]; (repeat' refine And.intro ?_ ?_) <;> omega) | ((repeat' refine And.intro ?_ ?_) <;> first | omega | rfl | exact Nat.le_refl _ | exact Nat.le_of_ble_eq_true rfl | exact bytesF_one _) | (simp_all; done) | (simp_all; omega))) ?_
      | refine r_obj rfl rfl (by (first | omega | exact Nat.le_of_ble_eq_true rfl | (simp only [wrap_u8, IntKind.wrap_i64, IntKind.wrap_i32, wrap_u32', wrap_u64', InI]; (repeat' refine And.intro ?_ ?_) <;> omega) | ((repeat' refine And.intro ?_ ?_) <;> first | omega | rfl | exact Nat.le_refl _ | exact Nat.le_of_ble_eq_true rfl | exact bytesF_one _) | (simp_all; done) | (simp_all; omega))) ?_ | refine r_sto rfl (by (first | omega | exact Nat.le_of_ble_eq_true rfl | (simp only [wrap_u8, IntKind.wrap_i64, IntKind.wrap_i32, wrap_u32', wrap_u64', InI]; (repeat' refine And.intro ?_ ?_) <;> omega) | ((repeat' refine And.intro ?_ ?_) <;> first | omega | rfl | exact Nat.le_refl _ | exact Nat.le_of_ble_eq_true rfl | exact bytesF_one _) | (simp_all; done) | (simp_all; omega))) ?_ | refine r_gobj rfl rfl rfl rfl (by (first | omega | exact Nat.le_of_ble_eq_true rfl | (simp only [wrap_u8, IntKind.wrap_i64, IntKind.wrap_i32, wrap_u32', wrap_u64', InI]; (repeat' refine And.intro ?_ ?_) <;> omega) | ((repeat' refine And.intro ?_ ?_) <;> first | omega | rfl | exact Nat.le_refl _ | exact Nat.le_of_ble_eq_true rfl | exact bytesF_one _) | (simp_all; done) | (simp_all; omega))) ?_
      | refine e_hit rfl ?_ | refine e_miss rfl ?_
      | refine ⟨by kernel_rfl, ?_⟩ | refine x_end rfl ?_ | refine r_call (f := 78) rfl rfl Tryd.call78 rfl (c2 (by omega)) ?_ | ((with_reducible refine c_grd ?_); (fail_if_success (refine c_lit true rfl rfl rfl ?_)); (fail_if_success (refine c_lit false rfl rfl rfl ?_)); refine c_split rfl rfl (fun _ => ?_) (fun _ => ?_)))
    all_goals
      rw [hR ()]
      first
        | rw [if_pos (by omega)]; done
        | (rw [if_pos (by omega)]; rfl)
        | rw [if_neg (by omega)]; done
        | (rw [if_neg (by omega)]; rfl)
  · have hma := tmod_abs m
    have hda := tdiv_abs m
    have hst := dig0_step (k := m.natAbs) (by omega)
    rw [hst, List.append_assoc] at g1
    have hdl : [UInt8.ofNat (48 + m.natAbs % 10)].length = 1 := rfl
    have hcut := dig_at (m.natAbs % 10) (by omega)
    have hls : s.length ≤ 19 := by
      have := congrArg List.length g1
      simp only [List.length_append] at this
      omega
    have fin : ∀ c : Int, c = ((m.natAbs % 10 : Nat) : Int) → ∀ (fr : Fr) (ow : Ow), leFr fr [(0, .i .i64 n), (1, .i .i64 e), (4, .pv 4 0), (5, .s ((dig10.take (c + 1).toNat).drop c.toNat ++ s)), (6, .i .i64 (m.tdiv 10))] → leOw ow [(4, .var [.b false, .s [], .i .i64 0])] →
        ∃ y : Int × List UInt8, (dig0 n.natAbs = dig0 y.1.natAbs ++ y.2 ∧ InI y.1) ∧ y.1.natAbs < m.natAbs ∧
          Le X fr ow [(0, .i .i64 n), (1, .i .i64 e), (4, .pv 4 0), (5, .s y.2), (6, .i .i64 y.1)] [(4, .var [.b false, .s [], .i .i64 0])] := by
      intro c hc fr ow h1 h2
      subst hc
      rw [show (((m.natAbs % 10 : Nat) : Int) + 1).toNat = m.natAbs % 10 + 1 by omega, Int.toNat_natCast, hcut] at h1
      exact ⟨(m.tdiv 10, [UInt8.ofNat (48 + m.natAbs % 10)] ++ s), ⟨by dsimp only; rw [hda]; exact g1, tdiv_in (by omega) g2⟩, by dsimp only; omega, h1, h2, rfl, by rw [hX]; intro k hk; cases hk⟩
    clear g1 hst hcut hR c2
    have l10 : dig10.length = 10 := rfl
    repeat' (first
      | with_reducible refine t_seq ?_ | with_reducible refine t_region ?_ | with_reducible refine c_nil ?_ | with_reducible refine n_then ?_
      | with_reducible refine t_ret ?_ | with_reducible refine t_skip ?_ | with_reducible refine t_exit ?_ | with_reducible refine t_block ?_
      | with_reducible refine n_block ?_ | with_reducible refine e_then ?_ | with_reducible refine x_then ?_ | with_reducible refine x_block ?_ | with_reducible refine t_draw ?_
      | refine r_val rfl rfl True.intro ?_ | refine r_gskip rfl rfl rfl ?_ | refine r_gskip2 rfl rfl rfl ?_ | refine r_gval rfl rfl rfl rfl True.intro ?_
      | refine t_true rfl ?_ | refine t_false rfl ?_
      | ((first | refine t_cond_d rfl (fun _ => ?_) (fun _ => ?_) | refine t_cond_i rfl (fun _ => ?_) (fun _ => ?_) | refine t_cond_j rfl (fun _ => ?_) (fun _ => ?_) | refine t_cond_s rfl (fun _ => ?_) (fun _ => ?_) | refine t_cond_n rfl (fun _ => ?_) (fun _ => ?_) | refine t_cond rfl (fun _ => ?_) (fun _ => ?_) | refine c_split_d rfl rfl (fun _ => ?_) (fun _ => ?_) | refine c_split_i rfl rfl (fun _ => ?_) (fun _ => ?_) | refine c_split_j rfl rfl (fun _ => ?_) (fun _ => ?_) | refine c_split_s rfl rfl (fun _ => ?_) (fun _ => ?_) | refine c_split_n rfl rfl (fun _ => ?_) (fun _ => ?_)) <;> try (first | (rename_i hz; exact Bool.noConfusion (show true = false from hz)) | (rename_i hz; exact Bool.noConfusion (show false = true from hz)) | (exfalso; omega)))
      | refine r_val rfl rfl (by (first | (simp only [List.length_append, List.length_drop, List.length_take]; omega) | omega | exact Nat.le_of_ble_eq_true rfl | (simp only [wrap_u8, IntKind.wrap_i64, IntKind.wrap_i32, wrap_u32', wrap_u64', InI]; (repeat' refine And.intro ?_ ?_) <;> omega) | ((repeat' refine And.intro ?_ ?_) <;> first | omega | rfl | exact Nat.le_refl _ | exact Nat.le_of_ble_eq_true rfl | exact bytesF_one _) | (simp_all; done) | (simp_all; omega))) ?_ | refine r_gval rfl rfl rfl rfl (by (first | (simp only [List.length_append, List.length_drop, List.length_take]; omega) | omega | exact Nat.le_of_ble_eq_true rfl | (simp only [wrap_u8, IntKind.wrap_i64, IntKind.wrap_i32, wrap_u32', wrap_u64', InI]; (repeat' refine And.intro ?_ ?_) <;> omega) | ((repeat' refine And.intro ?_ ?_) <;> first | omega | rfl | exact Nat.le_refl _ | exact Nat.le_of_ble_eq_true rfl | exact bytesF_one _) | (simp_all; done) | (simp_all; omega))) ?_
      | refine r_obj rfl rfl (by (first | (simp only [List.length_append, List.length_drop, List.length_take]; omega) | omega | exact Nat.le_of_ble_eq_true rfl | (simp only [wrap_u8, IntKind.wrap_i64, IntKind.wrap_i32, wrap_u32', wrap_u64', InI]; (repeat' refine And.intro ?_ ?_) <;> omega) | ((repeat' refine And.intro ?_ ?_) <;> first | omega | rfl | exact Nat.le_refl _ | exact Nat.le_of_ble_eq_true rfl | exact bytesF_one _) | (simp_all; done) | (simp_all; omega))) ?_ | refine r_sto rfl (by (first | (simp only [List.length_append, List.length_drop, List.length_take]; omega) | omega | exact Nat.le_of_ble_eq_true rfl | (simp only [wrap_u8, IntKind.wrap_i64, IntKind.wrap_i32, wrap_u32', wrap_u64', InI]; (repeat' refine And.intro ?_ ?_) <;> omega) | ((repeat' refine And.intro ?_ ?_) <;> first | omega | rfl | exact Nat.le_refl _ | exact Nat.le_of_ble_eq_true rfl | exact bytesF_one _) | (simp_all; done) | (simp_all; omega))) ?_ | refine r_gobj rfl rfl rfl rfl (by (first | (simp only [List.length_append, List.length_drop, List.length_take]; omega) | omega | exact Nat.le_of_ble_eq_true rfl | (simp only [wrap_u8, IntKind.wrap_i64, IntKind.wrap_i32, wrap_u32', wrap_u64', InI]; (repeat' refine And.intro ?_ ?_) <;> omega) | ((repeat' refine And.intro ?_ ?_) <;> first | omega | rfl | exact Nat.le_refl _ | exact Nat.le_of_ble_eq_true rfl | exact bytesF_one _) | (simp_all; done) | (simp_all; omega))) ?_
      | refine e_hit rfl ?_ | refine e_miss rfl ?_
      | refine ⟨by kernel_rfl, ?_⟩ | refine x_end rfl ?_ | refine r_trem rfl rfl rfl (by omega) ?_ | refine r_tquo rfl rfl rfl (by omega) (by omega) ?_ | ((with_reducible refine c_grd ?_); (fail_if_success (refine c_lit true rfl rfl rfl ?_)); (fail_if_success (refine c_lit false rfl rfl rfl ?_)); refine c_split rfl rfl (fun _ => ?_) (fun _ => ?_)))
    · refine fin (-m.tmod 10) (by rw [if_pos (by omega)] at hma; omega) _ _ ?_ ?_
      · exact ⟨rfl, rfl, rfl, rfl, rfl, trivial⟩
      · exact ⟨rfl, trivial⟩
    · refine fin (m.tmod 10) (by rw [if_neg (by omega)] at hma; omega) _ _ ?_ ?_
      · exact ⟨rfl, rfl, rfl, rfl, rfl, trivial⟩
      · exact ⟨rfl, trivial⟩

end Go.Proofs.YtinjdlckhmkmaaaDoor.Flow
