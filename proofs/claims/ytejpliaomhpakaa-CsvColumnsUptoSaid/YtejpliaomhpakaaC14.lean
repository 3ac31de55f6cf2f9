/- CSV: CsvColumns' function. -/
import Derived.Test.YtejpliaomhpakaaC10
import Derived.Test.YtejpliaomhpakaaC13
namespace Go.Proofs.Ytejpliaomhpakaa.Flow
open Go

set_option maxHeartbeats 8000000 in
theorem columns_ctr (a b : List (List (List UInt8))) (n : List UInt8) (ha : smallTab a) (hb : smallTab b) (hn : n.length ≤ 1048576) :
    Ctr Try.prog 10 [.sl 1 a.length (tabF a), .sl 1 b.length (tabF b), .s n] (.b true) := by
  refine r_fun Try.func10 rfl Try.ntmps10 Try.results10 rfl rfl fun X hL hX => ?_
  have la := ha.1
  have lb := hb.1
  have h1 := column_ctr a n (by omega) (by have := (ha.2 0).1; omega)
  have h2 := rcolumn_ctr a n (by omega) (by have := (ha.2 0).1; omega)
  have h3 := csame_ctr a b (by omega) (fun i => by have := (ha.2 i).1; omega)
  have h4 := csame_ctr a a (by omega) (fun i => by have := (ha.2 i).1; omega)
  have h5 := rsame_ctr a b (by omega) (by omega) (fun i => by have := (ha.2 i).1; omega)
  have h6 := rmuch_ctr a ha
  have h7 := rmuch_ctr b hb
  rw [decide_eq_true rfl] at h4
  generalize decide (a = b) = ab at h3 h5
  generalize max (colI a n) 0 = ci at h1 h2
  generalize decide (0 ≤ colI a n) = cb at h1 h2
  generalize muchTab a 0 0 = ma at h6
  generalize muchTab b 0 0 = mb at h7
  clear ha hb
  repeat' (first
    | with_reducible refine t_seq ?_ | with_reducible refine t_region ?_ | with_reducible refine c_nil ?_ | with_reducible refine n_then ?_
    | with_reducible refine t_ret ?_ | with_reducible refine t_skip ?_ | with_reducible refine t_exit ?_ | with_reducible refine t_block ?_
    | with_reducible refine n_block ?_ | with_reducible refine e_then ?_ | with_reducible refine x_then ?_ | with_reducible refine x_block ?_ | with_reducible refine t_draw ?_
    | refine r_val rfl rfl True.intro ?_ | refine r_gskip rfl rfl rfl ?_ | refine r_gskip2 rfl rfl rfl ?_ | refine r_gval rfl rfl rfl rfl True.intro ?_
    | refine t_true rfl ?_ | refine t_false rfl ?_
    | ((first | refine t_cond_d rfl (fun _ => ?_) (fun _ => ?_) | refine t_cond_i rfl (fun _ => ?_) (fun _ => ?_) | refine t_cond_j rfl (fun _ => ?_) (fun _ => ?_) | refine t_cond_s rfl (fun _ => ?_) (fun _ => ?_) | refine t_cond_n rfl (fun _ => ?_) (fun _ => ?_) | refine t_cond rfl (fun _ => ?_) (fun _ => ?_) | refine c_split_d rfl rfl (fun _ => ?_) (fun _ => ?_) | refine c_split_i rfl rfl (fun _ => ?_) (fun _ => ?_) | refine c_split_j rfl rfl (fun _ => ?_) (fun _ => ?_) | refine c_split_s rfl rfl (fun _ => ?_) (fun _ => ?_) | refine c_split_n rfl rfl (fun _ => ?_) (fun _ => ?_)) <;> try (first | contradiction | (exfalso; omega)))
    | refine r_val rfl rfl (by first | omega | exact Nat.le_of_ble_eq_true rfl | (simp_all; done) | (simp_all; omega) | ((repeat' refine And.intro ?_ ?_) <;> first | omega | rfl | exact Nat.le_of_ble_eq_true rfl | exact bytesF_one _ | (simp_all; done) | (simp_all; omega))) ?_ | refine r_gval rfl rfl rfl rfl (by first | omega | exact Nat.le_of_ble_eq_true rfl | (simp_all; done) | (simp_all; omega) | ((repeat' refine And.intro ?_ ?_) <;> first | omega | rfl | exact Nat.le_of_ble_eq_true rfl | exact bytesF_one _ | (simp_all; done) | (simp_all; omega))) ?_
    | refine r_obj rfl rfl (by first | omega | exact Nat.le_of_ble_eq_true rfl | (simp_all; done) | (simp_all; omega) | ((repeat' refine And.intro ?_ ?_) <;> first | omega | rfl | exact Nat.le_of_ble_eq_true rfl | exact bytesF_one _ | (simp_all; done) | (simp_all; omega))) ?_ | refine r_sto rfl (by first | omega | exact Nat.le_of_ble_eq_true rfl | (simp_all; done) | (simp_all; omega) | ((repeat' refine And.intro ?_ ?_) <;> first | omega | rfl | exact Nat.le_of_ble_eq_true rfl | exact bytesF_one _ | (simp_all; done) | (simp_all; omega))) ?_ | refine r_gobj rfl rfl rfl rfl (by first | omega | exact Nat.le_of_ble_eq_true rfl | (simp_all; done) | (simp_all; omega) | ((repeat' refine And.intro ?_ ?_) <;> first | omega | rfl | exact Nat.le_of_ble_eq_true rfl | exact bytesF_one _ | (simp_all; done) | (simp_all; omega))) ?_
    | refine e_hit rfl ?_ | refine e_miss rfl ?_
    | refine ⟨by kernel_rfl, ?_⟩ | refine x_end rfl ?_ | refine n_end rfl ?_ | refine r_call rfl rfl Try.call36 rfl h6 ?_ | refine r_gcall rfl rfl rfl rfl Try.call36 rfl h7 ?_ | refine r_call rfl rfl Try.call46 rfl h1 ?_ | refine r_call rfl rfl Try.call47 rfl h2 ?_ | refine r_gcall rfl rfl rfl rfl Try.call48 rfl h3 ?_ | refine r_gcall rfl rfl rfl rfl Try.call48 rfl h4 ?_ | refine r_gcall rfl rfl rfl rfl Try.call34 rfl h5 ?_ | refine r_call rfl rfl Try.call31 rfl live_ctr ?_ | refine r_gcall rfl rfl rfl rfl Try.call31 rfl live_ctr ?_ | ((with_reducible refine c_grd ?_); (fail_if_success (refine c_lit true rfl rfl rfl ?_)); (fail_if_success (refine c_lit false rfl rfl rfl ?_)); refine c_split rfl rfl (fun _ => ?_) (fun _ => ?_)))
  all_goals first
    | (with_reducible rfl)
    | (exfalso; simp_all; done)
    | (simp_all; done)

end Go.Proofs.Ytejpliaomhpakaa.Flow
