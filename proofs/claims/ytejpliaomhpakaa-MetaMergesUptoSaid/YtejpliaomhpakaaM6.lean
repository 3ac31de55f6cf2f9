/- META: the example; MetaHas' function. -/
import Derived.Test.YtejpliaomhpakaaM3
import Derived.Test.YtejpliaomhpakaaM5
namespace Go.Proofs.Ytejpliaomhpakaa.Flow
open Go

set_option maxHeartbeats 4000000 in
theorem mlive_ctr : Ctr Try.prog 13 [] (.b true) := by
  refine r_fun Try.func13 rfl Try.ntmps13 Try.results13 rfl rfl fun X hL hX => ?_
  have h1 := field_ctr [([97], [78, 117, 109, 98, 101, 114])] [97] [66, 111, 111, 108, 101, 97, 110] (by simp)
  have e1 : fieldV [([97], [78, 117, 109, 98, 101, 114])] [97] [66, 111, 111, 108, 101, 97, 110] = [([97], [83, 116, 114, 105, 110, 103])] := by decide
  rw [e1] at h1
  have h1' : Ctr Try.prog 21 [.sl 2 1 (chunk 2 [.s [97], .s [78, 117, 109, 98, 101, 114]]), .s [97], .s [66, 111, 111, 108, 101, 97, 110]] (.sl 2 1 (fldF [([97], [83, 116, 114, 105, 110, 103])])) :=
    h1.weak3 (Weak.sl_of rfl (fun i hi => by obtain rfl : i = 0 := by omega
                                             rfl) (fun i _ => rfl)) (.refl _) (.refl _)
  have h2 := field_ctr [([97], [83, 116, 114, 105, 110, 103])] [98] [78, 117, 109, 98, 101, 114] (by simp)
  have e2 : fieldV [([97], [83, 116, 114, 105, 110, 103])] [98] [78, 117, 109, 98, 101, 114] = [([97], [83, 116, 114, 105, 110, 103]), ([98], [78, 117, 109, 98, 101, 114])] := by decide
  rw [e2] at h2
  repeat' (first
    | with_reducible refine t_seq ?_ | with_reducible refine t_region ?_ | with_reducible refine c_nil ?_ | with_reducible refine n_then ?_
    | with_reducible refine t_ret ?_ | with_reducible refine t_skip ?_ | with_reducible refine t_exit ?_ | with_reducible refine t_block ?_
    | with_reducible refine n_block ?_ | with_reducible refine e_then ?_ | with_reducible refine x_then ?_ | with_reducible refine x_block ?_ | with_reducible refine t_draw ?_
    | refine r_val rfl rfl True.intro ?_ | refine r_gskip rfl rfl rfl ?_ | refine r_gskip2 rfl rfl rfl ?_ | refine r_gval rfl rfl rfl rfl True.intro ?_
    | refine t_true rfl ?_ | refine t_false rfl ?_
    | ((first | refine t_cond_d rfl (fun _ => ?_) (fun _ => ?_) | refine t_cond_i rfl (fun _ => ?_) (fun _ => ?_) | refine t_cond_j rfl (fun _ => ?_) (fun _ => ?_) | refine t_cond_s rfl (fun _ => ?_) (fun _ => ?_) | refine t_cond_n rfl (fun _ => ?_) (fun _ => ?_) | refine t_cond rfl (fun _ => ?_) (fun _ => ?_) | refine c_split_d rfl rfl (fun _ => ?_) (fun _ => ?_) | refine c_split_i rfl rfl (fun _ => ?_) (fun _ => ?_) | refine c_split_j rfl rfl (fun _ => ?_) (fun _ => ?_) | refine c_split_s rfl rfl (fun _ => ?_) (fun _ => ?_) | refine c_split_n rfl rfl (fun _ => ?_) (fun _ => ?_)) <;> try (first | contradiction | (exfalso; omega)))
    | refine r_val rfl rfl (by (first | omega | exact Nat.le_of_ble_eq_true rfl | (simp_all; done) | (simp_all; omega) | ((repeat' refine And.intro ?_ ?_) <;> first | omega | rfl | exact Nat.le_refl _ | exact Nat.le_of_ble_eq_true rfl | exact bytesF_one _ | (simp_all; done) | (simp_all; omega)))) ?_ | refine r_gval rfl rfl rfl rfl (by (first | omega | exact Nat.le_of_ble_eq_true rfl | (simp_all; done) | (simp_all; omega) | ((repeat' refine And.intro ?_ ?_) <;> first | omega | rfl | exact Nat.le_refl _ | exact Nat.le_of_ble_eq_true rfl | exact bytesF_one _ | (simp_all; done) | (simp_all; omega)))) ?_
    | refine r_obj rfl rfl (by (first | omega | exact Nat.le_of_ble_eq_true rfl | (simp_all; done) | (simp_all; omega) | ((repeat' refine And.intro ?_ ?_) <;> first | omega | rfl | exact Nat.le_refl _ | exact Nat.le_of_ble_eq_true rfl | exact bytesF_one _ | (simp_all; done) | (simp_all; omega)))) ?_ | refine r_sto rfl (by (first | omega | exact Nat.le_of_ble_eq_true rfl | (simp_all; done) | (simp_all; omega) | ((repeat' refine And.intro ?_ ?_) <;> first | omega | rfl | exact Nat.le_refl _ | exact Nat.le_of_ble_eq_true rfl | exact bytesF_one _ | (simp_all; done) | (simp_all; omega)))) ?_ | refine r_gobj rfl rfl rfl rfl (by (first | omega | exact Nat.le_of_ble_eq_true rfl | (simp_all; done) | (simp_all; omega) | ((repeat' refine And.intro ?_ ?_) <;> first | omega | rfl | exact Nat.le_refl _ | exact Nat.le_of_ble_eq_true rfl | exact bytesF_one _ | (simp_all; done) | (simp_all; omega)))) ?_
    | refine e_hit rfl ?_ | refine e_miss rfl ?_
    | refine ⟨by kernel_rfl, ?_⟩ | refine x_end rfl ?_ | refine n_end rfl ?_ | refine r_call rfl rfl Try.call21 rfl h1' ?_ | refine r_gcall rfl rfl rfl rfl Try.call21 rfl h2 ?_ | ((with_reducible refine c_grd ?_); (fail_if_success (refine c_lit true rfl rfl rfl ?_)); (fail_if_success (refine c_lit false rfl rfl rfl ?_)); refine c_split rfl rfl (fun _ => ?_) (fun _ => ?_)))
  all_goals rfl

set_option maxHeartbeats 16000000 in
theorem metaHas_ctr (a : List Vec) (c id key : Txt) (l : List Lay) (ha : smallV a) (hl : smallL l) (hid : id.length ≤ 1048576) (hkey : key.length ≤ 1048576) :
    Ctr Try.prog 3 [infoD a c, .s id, .s key, .sl 3 l.length (layF l)] (.b true) := by
  have h1 := rmuchV_ctr a ha
  have h2 := rmuchL_ctr l hl
  have h3 := has_ctr a c id key ha
  have h4 := rhas_ctr a c id key ha
  have h5 := fits_ctr a c l ha hl
  have h6 := rfits_ctr a c l ha hl
  generalize muchV a = ma at h1
  generalize muchL l = ml at h2
  generalize hasV a id key = hv at h3 h4
  generalize decide (fitsP a l) = hf at h5 h6
  unfold infoD at *
  refine r_fun Try.func3 rfl Try.ntmps3 Try.results3 rfl rfl fun X hL hX => ?_
  clear ha hl
  obtain ⟨x, y⟩ := hv
  dsimp only at h3 h4
  repeat' (first
    | with_reducible refine t_seq ?_ | with_reducible refine t_region ?_ | with_reducible refine c_nil ?_ | with_reducible refine n_then ?_
    | with_reducible refine t_ret ?_ | with_reducible refine t_skip ?_ | with_reducible refine t_exit ?_ | with_reducible refine t_block ?_
    | with_reducible refine n_block ?_ | with_reducible refine e_then ?_ | with_reducible refine x_then ?_ | with_reducible refine x_block ?_ | with_reducible refine t_draw ?_
    | refine r_val rfl rfl True.intro ?_ | refine r_gskip rfl rfl rfl ?_ | refine r_gskip2 rfl rfl rfl ?_ | refine r_gval rfl rfl rfl rfl True.intro ?_
    | refine t_true rfl ?_ | refine t_false rfl ?_
    | ((first | refine t_cond_d rfl (fun _ => ?_) (fun _ => ?_) | refine t_cond_i rfl (fun _ => ?_) (fun _ => ?_) | refine t_cond_j rfl (fun _ => ?_) (fun _ => ?_) | refine t_cond_s rfl (fun _ => ?_) (fun _ => ?_) | refine t_cond_n rfl (fun _ => ?_) (fun _ => ?_) | refine t_cond rfl (fun _ => ?_) (fun _ => ?_) | refine c_split_d rfl rfl (fun _ => ?_) (fun _ => ?_) | refine c_split_i rfl rfl (fun _ => ?_) (fun _ => ?_) | refine c_split_j rfl rfl (fun _ => ?_) (fun _ => ?_) | refine c_split_s rfl rfl (fun _ => ?_) (fun _ => ?_) | refine c_split_n rfl rfl (fun _ => ?_) (fun _ => ?_)) <;> try (first | contradiction | (exfalso; omega)))
    | refine r_val rfl rfl (by (first | omega | exact Nat.le_of_ble_eq_true rfl | (simp_all; done) | (simp_all; omega) | ((repeat' refine And.intro ?_ ?_) <;> first | omega | rfl | exact Nat.le_refl _ | exact Nat.le_of_ble_eq_true rfl | exact bytesF_one _ | (simp_all; done) | (simp_all; omega)))) ?_ | refine r_gval rfl rfl rfl rfl (by (first | omega | exact Nat.le_of_ble_eq_true rfl | (simp_all; done) | (simp_all; omega) | ((repeat' refine And.intro ?_ ?_) <;> first | omega | rfl | exact Nat.le_refl _ | exact Nat.le_of_ble_eq_true rfl | exact bytesF_one _ | (simp_all; done) | (simp_all; omega)))) ?_
    | refine r_obj rfl rfl (by (first | omega | exact Nat.le_of_ble_eq_true rfl | (simp_all; done) | (simp_all; omega) | ((repeat' refine And.intro ?_ ?_) <;> first | omega | rfl | exact Nat.le_refl _ | exact Nat.le_of_ble_eq_true rfl | exact bytesF_one _ | (simp_all; done) | (simp_all; omega)))) ?_ | refine r_sto rfl (by (first | omega | exact Nat.le_of_ble_eq_true rfl | (simp_all; done) | (simp_all; omega) | ((repeat' refine And.intro ?_ ?_) <;> first | omega | rfl | exact Nat.le_refl _ | exact Nat.le_of_ble_eq_true rfl | exact bytesF_one _ | (simp_all; done) | (simp_all; omega)))) ?_ | refine r_gobj rfl rfl rfl rfl (by (first | omega | exact Nat.le_of_ble_eq_true rfl | (simp_all; done) | (simp_all; omega) | ((repeat' refine And.intro ?_ ?_) <;> first | omega | rfl | exact Nat.le_refl _ | exact Nat.le_of_ble_eq_true rfl | exact bytesF_one _ | (simp_all; done) | (simp_all; omega)))) ?_
    | refine e_hit rfl ?_ | refine e_miss rfl ?_
    | refine ⟨by kernel_rfl, ?_⟩ | refine x_end rfl ?_ | refine n_end rfl ?_ | refine r_call rfl rfl Try.call11 rfl h1 ?_ | refine r_gcall rfl rfl rfl rfl Try.call12 rfl h2 ?_ | refine r_call rfl rfl Try.call14 rfl h3 ?_ | refine r_call rfl rfl Try.call15 rfl h4 ?_ | refine r_gcall rfl rfl rfl rfl Try.call16 rfl h5 ?_ | refine r_gcall rfl rfl rfl rfl Try.call17 rfl h6 ?_ | refine r_call rfl rfl Try.call13 rfl mlive_ctr ?_ | refine r_gcall rfl rfl rfl rfl Try.call13 rfl mlive_ctr ?_ | ((with_reducible refine c_grd ?_); (fail_if_success (refine c_lit true rfl rfl rfl ?_)); (fail_if_success (refine c_lit false rfl rfl rfl ?_)); refine c_split rfl rfl (fun _ => ?_) (fun _ => ?_)))
  all_goals first
    | (with_reducible rfl)
    | (exfalso; simp_all; done)
    | (simp_all; done)

end Go.Proofs.Ytejpliaomhpakaa.Flow
