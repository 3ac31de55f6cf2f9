/- CSV: the program's side: a row, and all rows. -/
import Derived.Test.YteidmimpkipcfaaDoorCC7
namespace Go.Proofs.YteidmimpkipcfaaDoor.Flow
open Go

/-- The place behind a row that was read, its end of line too. -/
def rowAt (s : List UInt8) (i : Int) : Int := if (rowG s i []).2.2 = 0 then (rowG s i []).2.1 + endF s (rowG s i []).2.1 else (rowG s i []).2.1

set_option maxHeartbeats 4000000 in
theorem row_ctr (s : List UInt8) (i : Int) (hs : s.length ≤ 1099511627776) (hi : 0 ≤ i) (hi2 : i ≤ s.length) :
    CtrO Tryd.prog 71 [.pv 0 0] [(0, .var (rd s i 0))] (.sl 1 (rowG s i []).1.length (rowF (rowG s i []).1)) [(0, .var (rd s (rowAt s i) (rowG s i []).2.2))] := by
  refine r_meth Tryd.func71 rfl Tryd.ntmps71 Tryd.results71 rfl rfl rfl fun X hL hX => ?_
  repeat' (first
    | with_reducible refine t_seq ?_ | with_reducible refine t_region ?_ | with_reducible refine c_nil ?_ | with_reducible refine n_then ?_
    | with_reducible refine t_ret ?_ | with_reducible refine t_skip ?_ | with_reducible refine t_exit ?_ | with_reducible refine t_block ?_
    | with_reducible refine n_block ?_ | with_reducible refine e_then ?_ | with_reducible refine x_then ?_ | with_reducible refine x_block ?_ | with_reducible refine t_draw ?_
    | refine r_val rfl rfl True.intro ?_ | refine r_gskip rfl rfl rfl ?_ | refine r_gskip2 rfl rfl rfl ?_ | refine r_gval rfl rfl rfl rfl True.intro ?_
    | refine t_true rfl ?_ | refine t_false rfl ?_
    | ((first | refine t_cond_d rfl (fun _ => ?_) (fun _ => ?_) | refine t_cond_i rfl (fun _ => ?_) (fun _ => ?_) | refine t_cond_j rfl (fun _ => ?_) (fun _ => ?_) | refine t_cond_s rfl (fun _ => ?_) (fun _ => ?_) | refine t_cond_n rfl (fun _ => ?_) (fun _ => ?_) | refine t_cond rfl (fun _ => ?_) (fun _ => ?_) | refine c_split_d rfl rfl (fun _ => ?_) (fun _ => ?_) | refine c_split_i rfl rfl (fun _ => ?_) (fun _ => ?_) | refine c_split_j rfl rfl (fun _ => ?_) (fun _ => ?_) | refine c_split_s rfl rfl (fun _ => ?_) (fun _ => ?_) | refine c_split_n rfl rfl (fun _ => ?_) (fun _ => ?_)) <;> try (first | contradiction | (exfalso; omega)))
    | refine r_val rfl rfl (by (first | omega | exact Nat.le_of_ble_eq_true rfl | (simp_all; done) | (simp_all; omega) | ((repeat' refine And.intro ?_ ?_) <;> first | omega | rfl | exact Nat.le_refl _ | exact Nat.le_of_ble_eq_true rfl | exact bytesF_one _ | (simp_all; done) | (simp_all; omega)))) ?_ | refine r_gval rfl rfl rfl rfl (by (first | omega | exact Nat.le_of_ble_eq_true rfl | (simp_all; done) | (simp_all; omega) | ((repeat' refine And.intro ?_ ?_) <;> first | omega | rfl | exact Nat.le_refl _ | exact Nat.le_of_ble_eq_true rfl | exact bytesF_one _ | (simp_all; done) | (simp_all; omega)))) ?_
    | refine r_obj rfl rfl (by (first | omega | exact Nat.le_of_ble_eq_true rfl | (simp_all; done) | (simp_all; omega) | ((repeat' refine And.intro ?_ ?_) <;> first | omega | rfl | exact Nat.le_refl _ | exact Nat.le_of_ble_eq_true rfl | exact bytesF_one _ | (simp_all; done) | (simp_all; omega)))) ?_ | refine r_sto rfl (by (first | omega | exact Nat.le_of_ble_eq_true rfl | (simp_all; done) | (simp_all; omega) | ((repeat' refine And.intro ?_ ?_) <;> first | omega | rfl | exact Nat.le_refl _ | exact Nat.le_of_ble_eq_true rfl | exact bytesF_one _ | (simp_all; done) | (simp_all; omega)))) ?_ | refine r_gobj rfl rfl rfl rfl (by (first | omega | exact Nat.le_of_ble_eq_true rfl | (simp_all; done) | (simp_all; omega) | ((repeat' refine And.intro ?_ ?_) <;> first | omega | rfl | exact Nat.le_refl _ | exact Nat.le_of_ble_eq_true rfl | exact bytesF_one _ | (simp_all; done) | (simp_all; omega)))) ?_
    | refine e_hit rfl ?_ | refine e_miss rfl ?_
    | refine ⟨by kernel_rfl, ?_⟩ | refine x_endOw rfl rfl ?_ ?_ | refine n_endOw rfl rfl ?_ ?_ | ((with_reducible refine c_grd ?_); (fail_if_success (refine c_lit true rfl rfl rfl ?_)); (fail_if_success (refine c_lit false rfl rfl rfl ?_)); refine c_split rfl rfl (fun _ => ?_) (fun _ => ?_)))
  refine T.adopt 3 3 9 1 (rowF []) rfl rfl ?_
  refine T.loop hL (fun x : Int × List (List UInt8) => [(0, .pv 0 0), (3, .gs 3 1 x.2.length (rowF x.2))]) (fun x => [(0, .var (rd s x.1 0)), (3, .row 9 1 x.2.length)])
    (fun x => 0 ≤ x.1 ∧ x.1 ≤ s.length ∧ x.2.length ≤ x.1.toNat ∧ rowG s x.1 x.2 = rowG s i []) (fun x => (s.length + 1 - x.1).toNat) (i, []) (by simp; omega)
    ⟨⟨rfl, rfl, trivial⟩, ⟨rfl, rfl, trivial⟩, rfl, by rw [hX]; simp⟩ ?_
  rintro ⟨j, l⟩ ⟨g1, g2, g3, g4⟩
  dsimp only at g1 g2 g3 g4 ⊢
  have hsp := fieldF_spec s j g1 g2
  have hen := endF_pos s (fieldF s j).2.1
  have hle := endF_le s (fieldF s j).2.1 hsp.2.1
  obtain ⟨f1, f2⟩ := fieldP_eq s j
  have hfc := field_ctr s j hs g1 g2
  rw [f1] at hfc
  have hbad : ¬ (fieldF s j).2.2 = 0 → rowG s i [] = ([], (fieldF s j).2.1, (fieldF s j).2.2) := fun h => by rw [← g4, rowG_bad h]
  have hgood : (fieldF s j).2.2 = 0 → ((fieldF s j).2.1 < s.length → ¬ at' s (fieldF s j).2.1 = 44) → rowG s i [] = (l ++ [(fieldP s j).1], (fieldF s j).2.1, 0) := fun h h' => by rw [← g4, rowG_end h h', f2 h]
  have hmore : (fieldF s j).2.2 = 0 → (fieldF s j).2.1 < s.length → at' s (fieldF s j).2.1 = 44 → rowG s ((fieldF s j).2.1 + 1) (l ++ [(fieldP s j).1]) = rowG s i [] := fun h h1 h2 => by rw [← g4, f2 h]; exact (rowG_more g1 g2 h h1 h2).symm
  generalize (fieldP s j).1 = x at *
  generalize (fieldF s j).2.1 = k at *
  generalize (fieldF s j).2.2 = c at *
  repeat' (first
    | with_reducible refine t_seq ?_ | with_reducible refine t_region ?_ | with_reducible refine c_nil ?_ | with_reducible refine n_then ?_
    | with_reducible refine t_ret ?_ | with_reducible refine t_skip ?_ | with_reducible refine t_exit ?_ | with_reducible refine t_block ?_
    | with_reducible refine n_block ?_ | with_reducible refine e_then ?_ | with_reducible refine x_then ?_ | with_reducible refine x_block ?_ | with_reducible refine t_draw ?_
    | refine r_val rfl rfl True.intro ?_ | refine r_gskip rfl rfl rfl ?_ | refine r_gskip2 rfl rfl rfl ?_ | refine r_gval rfl rfl rfl rfl True.intro ?_
    | refine t_true rfl ?_ | refine t_false rfl ?_
    | ((first | refine t_cond_d rfl (fun _ => ?_) (fun _ => ?_) | refine t_cond_i rfl (fun _ => ?_) (fun _ => ?_) | refine t_cond_j rfl (fun _ => ?_) (fun _ => ?_) | refine t_cond_s rfl (fun _ => ?_) (fun _ => ?_) | refine t_cond_n rfl (fun _ => ?_) (fun _ => ?_) | refine t_cond rfl (fun _ => ?_) (fun _ => ?_) | refine c_split_d rfl rfl (fun _ => ?_) (fun _ => ?_) | refine c_split_i rfl rfl (fun _ => ?_) (fun _ => ?_) | refine c_split_j rfl rfl (fun _ => ?_) (fun _ => ?_) | refine c_split_s rfl rfl (fun _ => ?_) (fun _ => ?_) | refine c_split_n rfl rfl (fun _ => ?_) (fun _ => ?_)) <;> try (first | contradiction | (exfalso; omega)))
    | refine r_val rfl rfl (by (first | omega | exact Nat.le_of_ble_eq_true rfl | (simp_all; done) | (simp_all; omega) | ((repeat' refine And.intro ?_ ?_) <;> first | omega | rfl | exact Nat.le_refl _ | exact Nat.le_of_ble_eq_true rfl | exact bytesF_one _ | (simp_all; done) | (simp_all; omega)))) ?_ | refine r_gval rfl rfl rfl rfl (by (first | omega | exact Nat.le_of_ble_eq_true rfl | (simp_all; done) | (simp_all; omega) | ((repeat' refine And.intro ?_ ?_) <;> first | omega | rfl | exact Nat.le_refl _ | exact Nat.le_of_ble_eq_true rfl | exact bytesF_one _ | (simp_all; done) | (simp_all; omega)))) ?_
    | refine r_obj rfl rfl (by (first | omega | exact Nat.le_of_ble_eq_true rfl | (simp_all; done) | (simp_all; omega) | ((repeat' refine And.intro ?_ ?_) <;> first | omega | rfl | exact Nat.le_refl _ | exact Nat.le_of_ble_eq_true rfl | exact bytesF_one _ | (simp_all; done) | (simp_all; omega)))) ?_ | refine r_sto rfl (by (first | omega | exact Nat.le_of_ble_eq_true rfl | (simp_all; done) | (simp_all; omega) | ((repeat' refine And.intro ?_ ?_) <;> first | omega | rfl | exact Nat.le_refl _ | exact Nat.le_of_ble_eq_true rfl | exact bytesF_one _ | (simp_all; done) | (simp_all; omega)))) ?_ | refine r_gobj rfl rfl rfl rfl (by (first | omega | exact Nat.le_of_ble_eq_true rfl | (simp_all; done) | (simp_all; omega) | ((repeat' refine And.intro ?_ ?_) <;> first | omega | rfl | exact Nat.le_refl _ | exact Nat.le_of_ble_eq_true rfl | exact bytesF_one _ | (simp_all; done) | (simp_all; omega)))) ?_
    | refine e_hit rfl ?_ | refine e_miss rfl ?_
    | refine ⟨by kernel_rfl, ?_⟩ | refine x_endOw rfl rfl ?_ ?_ | refine n_endOw rfl rfl ?_ ?_ | refine r_lend (f := 110) 0 rfl rfl Tryd.call110 rfl rfl rfl rfl rfl hfc ?_ | refine r_lendr (f := 111) 0 rfl rfl Tryd.call111 rfl rfl rfl rfl (lineEnd_ctr s k c (by omega) (by omega) (by omega)) ?_ | ((with_reducible refine c_grd ?_); (fail_if_success (refine c_lit true rfl rfl rfl ?_)); (fail_if_success (refine c_lit false rfl rfl rfl ?_)); refine c_split rfl rfl (fun _ => ?_) (fun _ => ?_)))
  · rw [hbad ‹_›]; exact .nil ..
  · unfold rowAt
    rw [hbad ‹_›, if_neg (by assumption)]
  · exact ⟨(k + 1, l ++ [x]), ⟨by dsimp only; omega, by dsimp only; omega, by simp; omega, hmore ‹_› ‹_› ‹_›⟩, by dsimp only; omega,
      ⟨rfl, gs_row 3 l _ _ rfl, trivial⟩, ⟨by subst c; rfl, by rw [List.length_append]; rfl, trivial⟩, rfl, by rw [hX]; simp⟩
  all_goals
    have hg := hgood ‹_› (fun _ => by first | assumption | omega)
    try unfold rowAt
    rw [hg]
    subst c
  · exact .of_eq (sl_row _ _ _ rfl)
  · rw [if_pos rfl]; rfl
  · exact .of_eq (sl_row _ _ _ rfl)
  · rw [if_pos rfl]; rfl

/-- Rows from a place on, as the program counts them: it looks whether there are already too many by '≥'. -/
theorem rowAt_spec (s : List UInt8) (i : Int) (hi : 0 ≤ i) (hi2 : i < s.length) : i ≤ rowAt s i ∧ rowAt s i ≤ s.length ∧ ((rowG s i []).2.2 = 0 → i < rowAt s i) := by
  have := rowG_spec s i [] hi (by omega)
  have h2 := endF_pos s (rowG s i []).2.1
  have h3 := endF_le s (rowG s i []).2.1 this.2.1
  unfold rowAt
  split
  · grind
  · grind

set_option maxHeartbeats 4000000 in
theorem parse_ctr (s : List UInt8) (hs : s.length ≤ 1099511627776) : Ctr Tryd.prog 28 [.s s] (parsed (parseG s)) := by
  refine r_fun Tryd.func28 rfl Tryd.ntmps28 Tryd.results28 rfl rfl fun X hL hX => ?_
  repeat' (first
    | with_reducible refine t_seq ?_ | with_reducible refine t_region ?_ | with_reducible refine c_nil ?_ | with_reducible refine n_then ?_
    | with_reducible refine t_ret ?_ | with_reducible refine t_skip ?_ | with_reducible refine t_exit ?_ | with_reducible refine t_block ?_
    | with_reducible refine n_block ?_ | with_reducible refine e_then ?_ | with_reducible refine x_then ?_ | with_reducible refine x_block ?_ | with_reducible refine t_draw ?_
    | refine r_val rfl rfl True.intro ?_ | refine r_gskip rfl rfl rfl ?_ | refine r_gskip2 rfl rfl rfl ?_ | refine r_gval rfl rfl rfl rfl True.intro ?_
    | refine t_true rfl ?_ | refine t_false rfl ?_
    | ((first | refine t_cond_d rfl (fun _ => ?_) (fun _ => ?_) | refine t_cond_i rfl (fun _ => ?_) (fun _ => ?_) | refine t_cond_j rfl (fun _ => ?_) (fun _ => ?_) | refine t_cond_s rfl (fun _ => ?_) (fun _ => ?_) | refine t_cond_n rfl (fun _ => ?_) (fun _ => ?_) | refine t_cond rfl (fun _ => ?_) (fun _ => ?_) | refine c_split_d rfl rfl (fun _ => ?_) (fun _ => ?_) | refine c_split_i rfl rfl (fun _ => ?_) (fun _ => ?_) | refine c_split_j rfl rfl (fun _ => ?_) (fun _ => ?_) | refine c_split_s rfl rfl (fun _ => ?_) (fun _ => ?_) | refine c_split_n rfl rfl (fun _ => ?_) (fun _ => ?_)) <;> try (first | contradiction | (exfalso; omega)))
    | refine r_val rfl rfl (by (first | omega | exact Nat.le_of_ble_eq_true rfl | (simp_all; done) | (simp_all; omega) | ((repeat' refine And.intro ?_ ?_) <;> first | omega | rfl | exact Nat.le_refl _ | exact Nat.le_of_ble_eq_true rfl | exact bytesF_one _ | (simp_all; done) | (simp_all; omega)))) ?_ | refine r_gval rfl rfl rfl rfl (by (first | omega | exact Nat.le_of_ble_eq_true rfl | (simp_all; done) | (simp_all; omega) | ((repeat' refine And.intro ?_ ?_) <;> first | omega | rfl | exact Nat.le_refl _ | exact Nat.le_of_ble_eq_true rfl | exact bytesF_one _ | (simp_all; done) | (simp_all; omega)))) ?_
    | refine r_obj rfl rfl (by (first | omega | exact Nat.le_of_ble_eq_true rfl | (simp_all; done) | (simp_all; omega) | ((repeat' refine And.intro ?_ ?_) <;> first | omega | rfl | exact Nat.le_refl _ | exact Nat.le_of_ble_eq_true rfl | exact bytesF_one _ | (simp_all; done) | (simp_all; omega)))) ?_ | refine r_sto rfl (by (first | omega | exact Nat.le_of_ble_eq_true rfl | (simp_all; done) | (simp_all; omega) | ((repeat' refine And.intro ?_ ?_) <;> first | omega | rfl | exact Nat.le_refl _ | exact Nat.le_of_ble_eq_true rfl | exact bytesF_one _ | (simp_all; done) | (simp_all; omega)))) ?_ | refine r_gobj rfl rfl rfl rfl (by (first | omega | exact Nat.le_of_ble_eq_true rfl | (simp_all; done) | (simp_all; omega) | ((repeat' refine And.intro ?_ ?_) <;> first | omega | rfl | exact Nat.le_refl _ | exact Nat.le_of_ble_eq_true rfl | exact bytesF_one _ | (simp_all; done) | (simp_all; omega)))) ?_
    | refine e_hit rfl ?_ | refine e_miss rfl ?_
    | refine ⟨by kernel_rfl, ?_⟩ | refine x_endw rfl ?_ | refine n_endw rfl ?_ | ((with_reducible refine c_grd ?_); (fail_if_success (refine c_lit true rfl rfl rfl ?_)); (fail_if_success (refine c_lit false rfl rfl rfl ?_)); refine c_split rfl rfl (fun _ => ?_) (fun _ => ?_)))
  · rw [parseG, if_pos ‹_›]; exact .tu3 (.nil ..) (.refl _) (.refl _)
  · have hp : parseG s = tabG s 0 [] := if_neg ‹_›
    refine T.adopt 2 2 87 1 (tabF []) rfl rfl ?_
    refine T.loop hL (fun x : Int × List (List (List UInt8)) => [(0, .s s), (5, .pv 13 0), (2, .gs 2 1 x.2.length (tabF x.2))]) (fun x => [(13, .var (rd s x.1 0)), (2, .row 87 1 x.2.length)])
      (fun x => 0 ≤ x.1 ∧ x.1 ≤ s.length ∧ x.2.length ≤ x.1.toNat ∧ x.2.length ≤ 65536 ∧ tabG s x.1 x.2 = tabG s 0 []) (fun x => (s.length - x.1).toNat) (0, []) (by simp)
      ⟨⟨rfl, rfl, rfl, trivial⟩, ⟨rfl, rfl, trivial⟩, rfl, by rw [hX]; simp⟩ ?_
    rintro ⟨i, rows⟩ ⟨h1, h2, h3, h5, h4⟩
    dsimp only at h1 h2 h3 h4 h5 ⊢
    have hra : i < s.length → _ := rowAt_spec s i h1
    have hrc := row_ctr s i hs h1 h2
    have hrow : ¬ (rowG s i []).2.2 = 0 → rowAt s i = (rowG s i []).2.1 := fun h => if_neg h
    have hrow2 : (rowG s i []).2.2 = 0 → rowAt s i = (rowG s i []).2.1 + endF s (rowG s i []).2.1 := fun h => if_pos h
    have tb := tabG_bad (s := s) (i := i) (rows := rows) h1
    have tf := tabG_form (s := s) (i := i) (rows := rows) h1
    have tm := tabG_more (s := s) (i := i) (rows := rows) h1
    generalize (rowG s i []).2.1 = k at *
    generalize (rowG s i []).2.2 = c at *
    generalize (rowG s i []).1 = l at *
    generalize rowAt s i = at2 at *
    repeat' (first
      | with_reducible refine t_seq ?_ | with_reducible refine t_region ?_ | with_reducible refine c_nil ?_ | with_reducible refine n_then ?_
      | with_reducible refine t_ret ?_ | with_reducible refine t_skip ?_ | with_reducible refine t_exit ?_ | with_reducible refine t_block ?_
      | with_reducible refine n_block ?_ | with_reducible refine e_then ?_ | with_reducible refine x_then ?_ | with_reducible refine x_block ?_ | with_reducible refine t_draw ?_
      | refine r_val rfl rfl True.intro ?_ | refine r_gskip rfl rfl rfl ?_ | refine r_gskip2 rfl rfl rfl ?_ | refine r_gval rfl rfl rfl rfl True.intro ?_
      | refine t_true rfl ?_ | refine t_false rfl ?_
      | ((first | refine t_cond_d rfl (fun _ => ?_) (fun _ => ?_) | refine t_cond_i rfl (fun _ => ?_) (fun _ => ?_) | refine t_cond_j rfl (fun _ => ?_) (fun _ => ?_) | refine t_cond_s rfl (fun _ => ?_) (fun _ => ?_) | refine t_cond_n rfl (fun _ => ?_) (fun _ => ?_) | refine t_cond rfl (fun _ => ?_) (fun _ => ?_) | refine c_split_d rfl rfl (fun _ => ?_) (fun _ => ?_) | refine c_split_i rfl rfl (fun _ => ?_) (fun _ => ?_) | refine c_split_j rfl rfl (fun _ => ?_) (fun _ => ?_) | refine c_split_s rfl rfl (fun _ => ?_) (fun _ => ?_) | refine c_split_n rfl rfl (fun _ => ?_) (fun _ => ?_)) <;> try (first | contradiction | (exfalso; omega)))
      | refine r_val rfl rfl (by (first | omega | exact Nat.le_of_ble_eq_true rfl | (simp_all; done) | (simp_all; omega) | ((repeat' refine And.intro ?_ ?_) <;> first | omega | rfl | exact Nat.le_refl _ | exact Nat.le_of_ble_eq_true rfl | exact bytesF_one _ | (simp_all; done) | (simp_all; omega)))) ?_ | refine r_gval rfl rfl rfl rfl (by (first | omega | exact Nat.le_of_ble_eq_true rfl | (simp_all; done) | (simp_all; omega) | ((repeat' refine And.intro ?_ ?_) <;> first | omega | rfl | exact Nat.le_refl _ | exact Nat.le_of_ble_eq_true rfl | exact bytesF_one _ | (simp_all; done) | (simp_all; omega)))) ?_
      | refine r_obj rfl rfl (by (first | omega | exact Nat.le_of_ble_eq_true rfl | (simp_all; done) | (simp_all; omega) | ((repeat' refine And.intro ?_ ?_) <;> first | omega | rfl | exact Nat.le_refl _ | exact Nat.le_of_ble_eq_true rfl | exact bytesF_one _ | (simp_all; done) | (simp_all; omega)))) ?_ | refine r_sto rfl (by (first | omega | exact Nat.le_of_ble_eq_true rfl | (simp_all; done) | (simp_all; omega) | ((repeat' refine And.intro ?_ ?_) <;> first | omega | rfl | exact Nat.le_refl _ | exact Nat.le_of_ble_eq_true rfl | exact bytesF_one _ | (simp_all; done) | (simp_all; omega)))) ?_ | refine r_gobj rfl rfl rfl rfl (by (first | omega | exact Nat.le_of_ble_eq_true rfl | (simp_all; done) | (simp_all; omega) | ((repeat' refine And.intro ?_ ?_) <;> first | omega | rfl | exact Nat.le_refl _ | exact Nat.le_of_ble_eq_true rfl | exact bytesF_one _ | (simp_all; done) | (simp_all; omega)))) ?_
      | refine e_hit rfl ?_ | refine e_miss rfl ?_
      | refine ⟨by kernel_rfl, ?_⟩ | refine x_endw rfl ?_ | refine n_endw rfl ?_ | refine r_lend (f := 71) 13 rfl rfl Tryd.call71 rfl rfl rfl rfl rfl hrc ?_ | ((with_reducible refine c_grd ?_); (fail_if_success (refine c_lit true rfl rfl rfl ?_)); (fail_if_success (refine c_lit false rfl rfl rfl ?_)); refine c_split rfl rfl (fun _ => ?_) (fun _ => ?_)))
    · rw [hp, ← h4, tabG_many h1 ‹_› (by omega)]; exact .tu3 (.nil ..) (.refl _) (.refl _)
    · rw [hp, ← h4, tb ‹_› (by omega) ‹_›, hrow ‹_›]; exact .tu3 (.nil ..) (.refl _) (.refl _)
    · rw [hp, ← h4, tf ‹_› (by omega) ‹_› (by omega) (by simp only [Int.toNat_zero] at *; omega)]; exact .tu3 (.nil ..) (.refl _) (.refl _)
    · have hh := hra ‹_›
      have := hh.2.2 ‹_›
      exact ⟨(at2, rows ++ [l]), ⟨by dsimp only; omega, by dsimp only; omega, by simp; omega, by simp; omega, by rw [hrow2 ‹_›, ← h4]; exact (tm ‹_› (by omega) ‹_› (fun _ => by simp only [Int.toNat_zero] at *; omega)).symm⟩, by dsimp only; omega,
        ⟨rfl, rfl, gs_tab 2 rows _ _ rfl, trivial⟩, ⟨by subst c; rfl, by rw [List.length_append]; rfl, trivial⟩, rfl, by rw [hX]; simp⟩
    · have hh := hra ‹_›
      have := hh.2.2 ‹_›
      exact ⟨(at2, rows ++ [l]), ⟨by dsimp only; omega, by dsimp only; omega, by simp; omega, by simp; omega, by rw [hrow2 ‹_›, ← h4]; exact (tm ‹_› (by omega) ‹_› (fun _ => by omega)).symm⟩, by dsimp only; omega,
        ⟨rfl, rfl, gs_tab 2 rows _ _ rfl, trivial⟩, ⟨by subst c; rfl, by rw [List.length_append]; rfl, trivial⟩, rfl, by rw [hX]; simp⟩
    · rw [hp, ← h4, tabG_none ‹_›]; exact .refl _

end Go.Proofs.YteidmimpkipcfaaDoor.Flow
