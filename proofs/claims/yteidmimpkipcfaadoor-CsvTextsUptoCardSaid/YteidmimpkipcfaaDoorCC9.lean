/- CSV: the laws' functions. -/
import Derived.Test.YteidmimpkipcfaaDoorCC8
namespace Go.Proofs.YteidmimpkipcfaaDoor.Flow
open Go

theorem code_ctr (n : Int) : Ctr Tryd.prog 29 [.i .i64 n] (.i .i64 n) := by
  refine r_fun Tryd.func29 rfl Tryd.ntmps29 Tryd.results29 rfl rfl fun X hL hX => ?_
  repeat' (first
    | with_reducible refine t_seq ?_ | with_reducible refine t_region ?_ | with_reducible refine c_nil ?_ | with_reducible refine n_then ?_
    | with_reducible refine t_ret ?_ | with_reducible refine t_skip ?_ | with_reducible refine t_exit ?_ | with_reducible refine t_block ?_
    | with_reducible refine n_block ?_ | with_reducible refine e_then ?_ | with_reducible refine x_then ?_ | with_reducible refine x_block ?_ | with_reducible refine t_draw ?_
    | refine r_val rfl rfl True.intro ?_ | refine r_gskip rfl rfl rfl ?_ | refine r_gskip2 rfl rfl rfl ?_ | refine r_gval rfl rfl rfl rfl True.intro ?_
    | refine t_true rfl ?_ | refine t_false rfl ?_
    | ((first | refine t_cond_d rfl (fun _ => ?_) (fun _ => ?_) | refine t_cond_i rfl (fun _ => ?_) (fun _ => ?_) | refine t_cond_j rfl (fun _ => ?_) (fun _ => ?_) | refine t_cond_s rfl (fun _ => ?_) (fun _ => ?_) | refine t_cond_n rfl (fun _ => ?_) (fun _ => ?_) | refine t_cond rfl (fun _ => ?_) (fun _ => ?_) | refine c_split_d rfl rfl (fun _ => ?_) (fun _ => ?_) | refine c_split_i rfl rfl (fun _ => ?_) (fun _ => ?_) | refine c_split_j rfl rfl (fun _ => ?_) (fun _ => ?_) | refine c_split_s rfl rfl (fun _ => ?_) (fun _ => ?_) | refine c_split_n rfl rfl (fun _ => ?_) (fun _ => ?_)) <;> try (first | contradiction | (exfalso; omega)))
    | refine r_val rfl rfl (by (first | omega | exact Nat.le_of_ble_eq_true rfl | (simp_all; done) | (simp_all; omega) | ((repeat' refine And.intro ?_ ?_) <;> first | omega | rfl | exact Nat.le_refl _ | exact Nat.le_of_ble_eq_true rfl | exact bytesF_one _ | (simp_all; done) | (simp_all; omega)))) ?_ | refine r_gval rfl rfl rfl rfl (by (first | omega | exact Nat.le_of_ble_eq_true rfl | (simp_all; done) | (simp_all; omega) | ((repeat' refine And.intro ?_ ?_) <;> first | omega | rfl | exact Nat.le_refl _ | exact Nat.le_of_ble_eq_true rfl | exact bytesF_one _ | (simp_all; done) | (simp_all; omega)))) ?_
    | refine r_obj rfl rfl (by (first | omega | exact Nat.le_of_ble_eq_true rfl | (simp_all; done) | (simp_all; omega) | ((repeat' refine And.intro ?_ ?_) <;> first | omega | rfl | exact Nat.le_refl _ | exact Nat.le_of_ble_eq_true rfl | exact bytesF_one _ | (simp_all; done) | (simp_all; omega)))) ?_ | refine r_sto rfl (by (first | omega | exact Nat.le_of_ble_eq_true rfl | (simp_all; done) | (simp_all; omega) | ((repeat' refine And.intro ?_ ?_) <;> first | omega | rfl | exact Nat.le_refl _ | exact Nat.le_of_ble_eq_true rfl | exact bytesF_one _ | (simp_all; done) | (simp_all; omega)))) ?_ | refine r_gobj rfl rfl rfl rfl (by (first | omega | exact Nat.le_of_ble_eq_true rfl | (simp_all; done) | (simp_all; omega) | ((repeat' refine And.intro ?_ ?_) <;> first | omega | rfl | exact Nat.le_refl _ | exact Nat.le_of_ble_eq_true rfl | exact bytesF_one _ | (simp_all; done) | (simp_all; omega)))) ?_
    | refine e_hit rfl ?_ | refine e_miss rfl ?_
    | refine ⟨by kernel_rfl, ?_⟩ | refine x_end rfl ?_ | refine n_end rfl ?_ | ((with_reducible refine c_grd ?_); (fail_if_success (refine c_lit true rfl rfl rfl ?_)); (fail_if_success (refine c_lit false rfl rfl rfl ?_)); refine c_split rfl rfl (fun _ => ?_) (fun _ => ?_)))
  rfl

def example1 : List UInt8 := [97, 44, 98, 13, 10, 49, 44, 34, 120, 44, 34, 34, 121, 34, 13, 10]
def example2 : List (List (List UInt8)) := [[[97], [98]], [[49], [120, 44, 34, 121]]]

theorem example_eq : parseG example1 = (example2, 16, 0) := by
  unfold parseG example1 example2
  simp [tabG, rowG, fieldF, plainF, quotF, overF, endF, at']

theorem rowF_plain (l : List (List UInt8)) (i : Nat) : (rowF l i).all D.plain = true := rfl

theorem weak_tab2 (f : Nat → List D) (t : List (List (List UInt8))) (hf : ∀ i, i < t.length → ∃ g, f i = [.sl 1 (t.getD i []).length g] ∧ ∀ j, j < (t.getD i []).length → g j = [.s ((t.getD i []).getD j [])]) : Weak (.sl 1 t.length f) (.sl 1 t.length (tabF t)) := by
  refine .sl _ _ _ _ (fun i hi => ?_) (fun i j hi hj => ?_)
  · obtain ⟨g, h1, h2⟩ := hf i hi
    rw [h1]
    exact ⟨rfl, rfl⟩
  · obtain ⟨g, h1, h2⟩ := hf i hi
    rw [h1] at hj ⊢
    have : j = 0 := by simpa using hj
    subst this
    refine .sl _ _ _ _ (fun i2 hi2 => ?_) (fun i2 j2 hi2 hj2 => ?_)
    · rw [h2 i2 hi2]
      exact ⟨rfl, rfl⟩
    · rw [h2 i2 hi2]
      exact .refl _

set_option maxHeartbeats 4000000 in
theorem live_ctr : Ctr Tryd.prog 23 [] (.b true) := by
  refine r_fun Tryd.func23 rfl Tryd.ntmps23 Tryd.results23 rfl rfl fun X hL hX => ?_
  have hp := parse_ctr example1 (by decide)
  rw [example_eq] at hp
  have hs := rsame_ctr example2 example2 (by decide) (by decide) (fun i => by match i with | 0 => decide | 1 => decide | (i + 2) => exact Nat.zero_le _)
  rw [decide_eq_true rfl] at hs
  repeat' (first
    | with_reducible refine t_seq ?_ | with_reducible refine t_region ?_ | with_reducible refine c_nil ?_ | with_reducible refine n_then ?_
    | with_reducible refine t_ret ?_ | with_reducible refine t_skip ?_ | with_reducible refine t_exit ?_ | with_reducible refine t_block ?_
    | with_reducible refine n_block ?_ | with_reducible refine e_then ?_ | with_reducible refine x_then ?_ | with_reducible refine x_block ?_ | with_reducible refine t_draw ?_
    | refine r_val rfl rfl True.intro ?_ | refine r_gskip rfl rfl rfl ?_ | refine r_gskip2 rfl rfl rfl ?_ | refine r_gval rfl rfl rfl rfl True.intro ?_
    | refine t_true rfl ?_ | refine t_false rfl ?_
    | ((first | refine t_cond_d rfl (fun _ => ?_) (fun _ => ?_) | refine t_cond_i rfl (fun _ => ?_) (fun _ => ?_) | refine t_cond_j rfl (fun _ => ?_) (fun _ => ?_) | refine t_cond_s rfl (fun _ => ?_) (fun _ => ?_) | refine t_cond_n rfl (fun _ => ?_) (fun _ => ?_) | refine t_cond rfl (fun _ => ?_) (fun _ => ?_) | refine c_split_d rfl rfl (fun _ => ?_) (fun _ => ?_) | refine c_split_i rfl rfl (fun _ => ?_) (fun _ => ?_) | refine c_split_j rfl rfl (fun _ => ?_) (fun _ => ?_) | refine c_split_s rfl rfl (fun _ => ?_) (fun _ => ?_) | refine c_split_n rfl rfl (fun _ => ?_) (fun _ => ?_)) <;> try (first | contradiction | (exfalso; omega)))
    | refine r_val rfl rfl (by (first | omega | exact Nat.le_of_ble_eq_true rfl | (simp_all; done) | (simp_all; omega) | ((repeat' refine And.intro ?_ ?_) <;> first | omega | rfl | exact Nat.le_refl _ | exact Nat.le_of_ble_eq_true rfl | exact bytesF_one _ | (simp_all; done) | (simp_all; omega)))) ?_ | refine r_gval rfl rfl rfl rfl (by (first | omega | exact Nat.le_of_ble_eq_true rfl | (simp_all; done) | (simp_all; omega) | ((repeat' refine And.intro ?_ ?_) <;> first | omega | rfl | exact Nat.le_refl _ | exact Nat.le_of_ble_eq_true rfl | exact bytesF_one _ | (simp_all; done) | (simp_all; omega)))) ?_
    | refine r_obj rfl rfl (by (first | omega | exact Nat.le_of_ble_eq_true rfl | (simp_all; done) | (simp_all; omega) | ((repeat' refine And.intro ?_ ?_) <;> first | omega | rfl | exact Nat.le_refl _ | exact Nat.le_of_ble_eq_true rfl | exact bytesF_one _ | (simp_all; done) | (simp_all; omega)))) ?_ | refine r_sto rfl (by (first | omega | exact Nat.le_of_ble_eq_true rfl | (simp_all; done) | (simp_all; omega) | ((repeat' refine And.intro ?_ ?_) <;> first | omega | rfl | exact Nat.le_refl _ | exact Nat.le_of_ble_eq_true rfl | exact bytesF_one _ | (simp_all; done) | (simp_all; omega)))) ?_ | refine r_gobj rfl rfl rfl rfl (by (first | omega | exact Nat.le_of_ble_eq_true rfl | (simp_all; done) | (simp_all; omega) | ((repeat' refine And.intro ?_ ?_) <;> first | omega | rfl | exact Nat.le_refl _ | exact Nat.le_of_ble_eq_true rfl | exact bytesF_one _ | (simp_all; done) | (simp_all; omega)))) ?_
    | refine e_hit rfl ?_ | refine e_miss rfl ?_
    | refine ⟨by kernel_rfl, ?_⟩ | refine x_end rfl ?_ | refine n_end rfl ?_ | refine r_call (f := 28) rfl rfl Tryd.call28 rfl hp ?_ | refine r_call (f := 29) rfl rfl Tryd.call29 rfl (code_ctr 0) ?_ | refine r_gcall (f := 30) rfl rfl rfl rfl Tryd.call30 rfl (hs.weak2 (.refl _) (weak_tab2 _ example2 (fun i hi => by match i, hi with | 0, _ => exact ⟨_, rfl, fun j hj => by match j, hj with | 0, _ => rfl | 1, _ => rfl⟩ | 1, _ => exact ⟨_, rfl, fun j hj => by match j, hj with | 0, _ => rfl | 1, _ => rfl⟩))) ?_ | ((with_reducible refine c_grd ?_); (fail_if_success (refine c_lit true rfl rfl rfl ?_)); (fail_if_success (refine c_lit false rfl rfl rfl ?_)); refine c_split rfl rfl (fun _ => ?_) (fun _ => ?_)))
  all_goals rfl

theorem rowG_len (s : List UInt8) (i : Int) (l : List (List UInt8)) (hi : 0 ≤ i) (hi2 : i ≤ s.length) : (rowG s i l).1.length ≤ l.length + (s.length + 1 - i).toNat := by
  fun_induction rowG s i l with
  | case1 i l f h => simp
  | case2 i l f h1 h2 ih =>
    have hsp : i ≤ f.2.1 ∧ f.2.1 ≤ s.length ∧ _ := fieldF_spec s i hi hi2
    have hlt : f.2.1 < s.length := h2.2.1
    have := ih (by omega) (by omega)
    simp only [List.length_append, List.length_cons, List.length_nil] at this
    omega
  | case3 i l f h1 h2 =>
    simp only [List.length_append, List.length_cons, List.length_nil]
    omega

theorem tabG_len (s : List UInt8) (i : Int) (rows : List (List (List UInt8))) (h0 : rows.length ≤ 65536) (h : ∀ r ∈ rows, r.length ≤ s.length + 1) : (tabG s i rows).1.length ≤ 65536 ∧ ∀ r ∈ (tabG s i rows).1, r.length ≤ s.length + 1 := by
  fun_induction tabG s i rows with
  | case3 i rows h1 h2 h3 h4 ih =>
    refine ih (by simp; omega) (fun r hr => ?_)
    rcases List.mem_append.1 hr with hr | hr
    · exact h r hr
    · rw [List.mem_singleton] at hr
      subst hr
      have := rowG_len s i [] h1.1 (by omega)
      simp only [List.length_nil] at this
      omega
  | _ => simp_all

theorem parseG_len (s : List UInt8) (hs : s.length ≤ 1048576) : (parseG s).1.length ≤ 65536 ∧ ∀ i, ((parseG s).1.getD i []).length ≤ s.length + 1 := by
  have h : (parseG s).1.length ≤ 65536 ∧ ∀ r ∈ (parseG s).1, r.length ≤ s.length + 1 := by
    unfold parseG
    split
    · simp
    · exact tabG_len s 0 [] (by simp) (by simp)
  refine ⟨h.1, fun i => ?_⟩
  by_cases hi : i < (parseG s).1.length
  · rw [List.getD_eq_getElem?_getD, List.getElem?_eq_getElem hi]
    exact h.2 _ (List.getElem_mem hi)
  · rw [List.getD_eq_getElem?_getD, List.getElem?_eq_none (by omega)]
    simp

end Go.Proofs.YteidmimpkipcfaaDoor.Flow
