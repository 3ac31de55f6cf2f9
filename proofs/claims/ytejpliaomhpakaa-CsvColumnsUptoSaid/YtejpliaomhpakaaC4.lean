/- CSV: the document's Parse. -/
import Derived.Test.YtejpliaomhpakaaC3
namespace Go.Proofs.Ytejpliaomhpakaa.Flow
open Go

set_option maxHeartbeats 4000000 in
theorem rparse_ctr (s : List UInt8) (hs : s.length ≤ 1099511627776) : Ctr Try.prog 33 [.s s] (parsed (parseG s)) := by
  refine r_fun Try.func33 rfl Try.ntmps33 Try.results33 rfl rfl fun X hL hX => ?_
  repeat' (first
    | with_reducible refine t_seq ?_ | with_reducible refine t_region ?_ | with_reducible refine c_nil ?_ | with_reducible refine n_then ?_
    | with_reducible refine t_ret ?_ | with_reducible refine t_skip ?_ | with_reducible refine t_exit ?_ | with_reducible refine t_block ?_
    | with_reducible refine n_block ?_ | with_reducible refine e_then ?_ | with_reducible refine x_then ?_ | with_reducible refine x_block ?_ | with_reducible refine t_draw ?_
    | refine r_val rfl rfl True.intro ?_ | refine r_gskip rfl rfl rfl ?_ | refine r_gskip2 rfl rfl rfl ?_ | refine r_gval rfl rfl rfl rfl True.intro ?_
    | refine t_true rfl ?_ | refine t_false rfl ?_
    | ((first | refine t_cond_d rfl (fun _ => ?_) (fun _ => ?_) | refine t_cond_i rfl (fun _ => ?_) (fun _ => ?_) | refine t_cond_j rfl (fun _ => ?_) (fun _ => ?_) | refine t_cond_s rfl (fun _ => ?_) (fun _ => ?_) | refine t_cond_n rfl (fun _ => ?_) (fun _ => ?_) | refine t_cond rfl (fun _ => ?_) (fun _ => ?_) | refine c_split_d rfl rfl (fun _ => ?_) (fun _ => ?_) | refine c_split_i rfl rfl (fun _ => ?_) (fun _ => ?_) | refine c_split_j rfl rfl (fun _ => ?_) (fun _ => ?_) | refine c_split_s rfl rfl (fun _ => ?_) (fun _ => ?_) | refine c_split_n rfl rfl (fun _ => ?_) (fun _ => ?_)) <;> try (first | contradiction | (exfalso; omega)))
    | refine r_val rfl rfl (by first | omega | exact Nat.le_of_ble_eq_true rfl | (simp_all; done) | (simp_all; omega) | ((repeat' refine And.intro ?_ ?_) <;> first | omega | rfl | exact Nat.le_of_ble_eq_true rfl | exact bytesF_one _ | (simp_all; done) | (simp_all; omega))) ?_ | refine r_gval rfl rfl rfl rfl (by first | omega | exact Nat.le_of_ble_eq_true rfl | (simp_all; done) | (simp_all; omega) | ((repeat' refine And.intro ?_ ?_) <;> first | omega | rfl | exact Nat.le_of_ble_eq_true rfl | exact bytesF_one _ | (simp_all; done) | (simp_all; omega))) ?_
    | refine r_obj rfl rfl (by first | omega | exact Nat.le_of_ble_eq_true rfl | (simp_all; done) | (simp_all; omega) | ((repeat' refine And.intro ?_ ?_) <;> first | omega | rfl | exact Nat.le_of_ble_eq_true rfl | exact bytesF_one _ | (simp_all; done) | (simp_all; omega))) ?_ | refine r_sto rfl (by first | omega | exact Nat.le_of_ble_eq_true rfl | (simp_all; done) | (simp_all; omega) | ((repeat' refine And.intro ?_ ?_) <;> first | omega | rfl | exact Nat.le_of_ble_eq_true rfl | exact bytesF_one _ | (simp_all; done) | (simp_all; omega))) ?_ | refine r_gobj rfl rfl rfl rfl (by first | omega | exact Nat.le_of_ble_eq_true rfl | (simp_all; done) | (simp_all; omega) | ((repeat' refine And.intro ?_ ?_) <;> first | omega | rfl | exact Nat.le_of_ble_eq_true rfl | exact bytesF_one _ | (simp_all; done) | (simp_all; omega))) ?_
    | refine e_hit rfl ?_ | refine e_miss rfl ?_
    | refine ⟨by kernel_rfl, ?_⟩ | refine x_endw rfl ?_ | refine n_endw rfl ?_ | ((with_reducible refine c_grd ?_); (fail_if_success (refine c_lit true rfl rfl rfl ?_)); (fail_if_success (refine c_lit false rfl rfl rfl ?_)); refine c_split rfl rfl (fun _ => ?_) (fun _ => ?_)))
  · rw [parseG, if_pos ‹_›]; exact .tu3 (.nil ..) (.refl _) (.refl _)
  · have hp : parseG s = tabG s 0 [] := if_neg ‹_›
    refine T.adopt 5 5 44 1 (tabF []) rfl rfl ?_
    refine T.loop hL (fun x : Int × List (List (List UInt8)) => [(0, .s s), (6, .i .i64 x.1), (5, .gs 5 1 x.2.length (tabF x.2))]) (fun x => [(5, .row 44 1 x.2.length)])
      (fun x => 0 ≤ x.1 ∧ x.1 ≤ s.length ∧ x.2.length ≤ x.1.toNat ∧ tabG s x.1 x.2 = tabG s 0 []) (fun x => (s.length - x.1).toNat) (0, []) (by simp)
      ⟨⟨rfl, rfl, rfl, trivial⟩, ⟨rfl, trivial⟩, rfl, by rw [hX]; simp⟩ ?_
    rintro ⟨i, rows⟩ ⟨h1, h2, h3, h4⟩
    dsimp only at h1 h2 h3 h4 ⊢
    repeat' (first
      | with_reducible refine t_seq ?_ | with_reducible refine t_region ?_ | with_reducible refine c_nil ?_ | with_reducible refine n_then ?_
      | with_reducible refine t_ret ?_ | with_reducible refine t_skip ?_ | with_reducible refine t_exit ?_ | with_reducible refine t_block ?_
      | with_reducible refine n_block ?_ | with_reducible refine e_then ?_ | with_reducible refine x_then ?_ | with_reducible refine x_block ?_ | with_reducible refine t_draw ?_
      | refine r_val rfl rfl True.intro ?_ | refine r_gskip rfl rfl rfl ?_ | refine r_gskip2 rfl rfl rfl ?_ | refine r_gval rfl rfl rfl rfl True.intro ?_
      | refine t_true rfl ?_ | refine t_false rfl ?_
      | ((first | refine t_cond_d rfl (fun _ => ?_) (fun _ => ?_) | refine t_cond_i rfl (fun _ => ?_) (fun _ => ?_) | refine t_cond_j rfl (fun _ => ?_) (fun _ => ?_) | refine t_cond_s rfl (fun _ => ?_) (fun _ => ?_) | refine t_cond_n rfl (fun _ => ?_) (fun _ => ?_) | refine t_cond rfl (fun _ => ?_) (fun _ => ?_) | refine c_split_d rfl rfl (fun _ => ?_) (fun _ => ?_) | refine c_split_i rfl rfl (fun _ => ?_) (fun _ => ?_) | refine c_split_j rfl rfl (fun _ => ?_) (fun _ => ?_) | refine c_split_s rfl rfl (fun _ => ?_) (fun _ => ?_) | refine c_split_n rfl rfl (fun _ => ?_) (fun _ => ?_)) <;> try (first | contradiction | (exfalso; omega)))
      | refine r_val rfl rfl (by first | omega | exact Nat.le_of_ble_eq_true rfl | (simp_all; done) | (simp_all; omega) | ((repeat' refine And.intro ?_ ?_) <;> first | omega | rfl | exact Nat.le_of_ble_eq_true rfl | exact bytesF_one _ | (simp_all; done) | (simp_all; omega))) ?_ | refine r_gval rfl rfl rfl rfl (by first | omega | exact Nat.le_of_ble_eq_true rfl | (simp_all; done) | (simp_all; omega) | ((repeat' refine And.intro ?_ ?_) <;> first | omega | rfl | exact Nat.le_of_ble_eq_true rfl | exact bytesF_one _ | (simp_all; done) | (simp_all; omega))) ?_
      | refine r_obj rfl rfl (by first | omega | exact Nat.le_of_ble_eq_true rfl | (simp_all; done) | (simp_all; omega) | ((repeat' refine And.intro ?_ ?_) <;> first | omega | rfl | exact Nat.le_of_ble_eq_true rfl | exact bytesF_one _ | (simp_all; done) | (simp_all; omega))) ?_ | refine r_sto rfl (by first | omega | exact Nat.le_of_ble_eq_true rfl | (simp_all; done) | (simp_all; omega) | ((repeat' refine And.intro ?_ ?_) <;> first | omega | rfl | exact Nat.le_of_ble_eq_true rfl | exact bytesF_one _ | (simp_all; done) | (simp_all; omega))) ?_ | refine r_gobj rfl rfl rfl rfl (by first | omega | exact Nat.le_of_ble_eq_true rfl | (simp_all; done) | (simp_all; omega) | ((repeat' refine And.intro ?_ ?_) <;> first | omega | rfl | exact Nat.le_of_ble_eq_true rfl | exact bytesF_one _ | (simp_all; done) | (simp_all; omega))) ?_
      | refine e_hit rfl ?_ | refine e_miss rfl ?_
      | refine ⟨by kernel_rfl, ?_⟩ | refine x_endw rfl ?_ | refine n_endw rfl ?_ | ((with_reducible refine c_grd ?_); (fail_if_success (refine c_lit true rfl rfl rfl ?_)); (fail_if_success (refine c_lit false rfl rfl rfl ?_)); refine c_split rfl rfl (fun _ => ?_) (fun _ => ?_)))
    · rw [hp, ← h4, tabG_many ‹_› ‹_› (by omega)]; exact .tu3 (.nil ..) (.refl _) (.refl _)
    · refine T.adopt 8 8 9 1 (rowF []) rfl rfl ?_
      have hlt : i < s.length := ‹_›
      have hne : ¬ rows.length = 65536 := by omega
      have hsp0 := rowG_spec s i [] h1 h2
      refine T.loop hL (fun x : Int × List (List UInt8) => [(0, .s s), (5, .gs 5 1 rows.length (tabF rows)), (6, .i .i64 x.1), (7, .i .i64 i), (8, .gs 8 1 x.2.length (rowF x.2))]) (fun x => [(5, .row 44 1 rows.length), (8, .row 9 1 x.2.length)])
        (fun x => 0 ≤ x.1 ∧ x.1 ≤ s.length ∧ x.2.length ≤ x.1.toNat ∧ rowG s x.1 x.2 = rowG s i []) (fun x => (s.length + 1 - x.1).toNat) (i, []) (by simp; omega)
        ⟨⟨rfl, rfl, rfl, rfl, rfl, trivial⟩, ⟨rfl, rfl, trivial⟩, rfl, by rw [hX]; simp⟩ ?_
      rintro ⟨j, l⟩ ⟨g1, g2, g3, g4⟩
      dsimp only at g1 g2 g3 g4 ⊢
      have hsp := fieldF_spec s j g1 g2
      have hen := endF_pos s (fieldF s j).2.1
      have hbad : ¬ (fieldF s j).2.2 = 0 → rowG s i [] = ([], (fieldF s j).2.1, (fieldF s j).2.2) := fun h => by rw [← g4, rowG_bad h]
      have hgood : (fieldF s j).2.2 = 0 → ((fieldF s j).2.1 < s.length → ¬ at' s (fieldF s j).2.1 = 44) → rowG s i [] = (l ++ [(fieldF s j).1], (fieldF s j).2.1, 0) := fun h h' => by rw [← g4, rowG_end h h']
      have hle := endF_le s (fieldF s j).2.1 hsp.2.1
      have hform : rowG s i [] = (l ++ [(fieldF s j).1], (fieldF s j).2.1, 0) → 0 < (rows.length : Int) → ¬ ((rows.getD (Int.toNat 0) []).length : Int) = ((l.length + 1 : Nat) : Int) → parseG s = ([], i, 3) := fun h h2 h3 => by
        rw [hp, ← h4]
        refine tabG_form h1 hlt hne (by rw [h]) (by omega) ?_
        rw [h]
        simp only [List.length_append, List.length_cons, List.length_nil]
        intro h4
        exact h3 (by exact_mod_cast h4)
      have hmore : rowG s i [] = (l ++ [(fieldF s j).1], (fieldF s j).2.1, 0) → (0 < (rows.length : Int) → ((rows.getD (Int.toNat 0) []).length : Int) = ((l.length + 1 : Nat) : Int)) →
          ∃ y : Int × List (List (List UInt8)), (0 ≤ y.1 ∧ y.1 ≤ s.length ∧ y.2.length ≤ y.1.toNat ∧ tabG s y.1 y.2 = tabG s 0 []) ∧ (s.length - y.1).toNat < (s.length - i).toNat ∧ y = ((fieldF s j).2.1 + endF s (fieldF s j).2.1, rows ++ [l ++ [(fieldF s j).1]]) := fun h h2 => by
        have e := tabG_more h1 hlt hne (by rw [h]) (rows := rows) (fun h3 => by rw [h]; have := h2 (by omega); simp only [List.length_append, List.length_cons, List.length_nil]; exact_mod_cast this)
        rw [h] at e hsp0
        dsimp only at e hsp0
        have := hsp0.2.2 rfl
        exact ⟨_, ⟨by dsimp only; omega, by dsimp only; omega, by simp; omega, by rw [← h4, e]⟩, by dsimp only; omega, rfl⟩
      have hrow : D.sl 1 (l.length + 1) (catF l.length (rowF l) 1 (chunk 1 [D.s (fieldF s j).1])) = .sl 1 (l ++ [(fieldF s j).1]).length (rowF (l ++ [(fieldF s j).1])) := sl_row _ _ _ rfl
      repeat' (first
        | with_reducible refine t_seq ?_ | with_reducible refine t_region ?_ | with_reducible refine c_nil ?_ | with_reducible refine n_then ?_
        | with_reducible refine t_ret ?_ | with_reducible refine t_skip ?_ | with_reducible refine t_exit ?_ | with_reducible refine t_block ?_
        | with_reducible refine n_block ?_ | with_reducible refine e_then ?_ | with_reducible refine x_then ?_ | with_reducible refine x_block ?_ | with_reducible refine t_draw ?_
        | refine r_val rfl rfl True.intro ?_ | refine r_gskip rfl rfl rfl ?_ | refine r_gskip2 rfl rfl rfl ?_ | refine r_gval rfl rfl rfl rfl True.intro ?_
        | refine t_true rfl ?_ | refine t_false rfl ?_
        | ((first | refine t_cond_d rfl (fun _ => ?_) (fun _ => ?_) | refine t_cond_i rfl (fun _ => ?_) (fun _ => ?_) | refine t_cond_j rfl (fun _ => ?_) (fun _ => ?_) | refine t_cond_s rfl (fun _ => ?_) (fun _ => ?_) | refine t_cond_n rfl (fun _ => ?_) (fun _ => ?_) | refine t_cond rfl (fun _ => ?_) (fun _ => ?_) | refine c_split_d rfl rfl (fun _ => ?_) (fun _ => ?_) | refine c_split_i rfl rfl (fun _ => ?_) (fun _ => ?_) | refine c_split_j rfl rfl (fun _ => ?_) (fun _ => ?_) | refine c_split_s rfl rfl (fun _ => ?_) (fun _ => ?_) | refine c_split_n rfl rfl (fun _ => ?_) (fun _ => ?_)) <;> try (first | contradiction | (exfalso; omega)))
        | refine r_val rfl rfl (by first | omega | exact Nat.le_of_ble_eq_true rfl | (simp_all; done) | (simp_all; omega) | ((repeat' refine And.intro ?_ ?_) <;> first | omega | rfl | exact Nat.le_of_ble_eq_true rfl | exact bytesF_one _ | (simp_all; done) | (simp_all; omega))) ?_ | refine r_gval rfl rfl rfl rfl (by first | omega | exact Nat.le_of_ble_eq_true rfl | (simp_all; done) | (simp_all; omega) | ((repeat' refine And.intro ?_ ?_) <;> first | omega | rfl | exact Nat.le_of_ble_eq_true rfl | exact bytesF_one _ | (simp_all; done) | (simp_all; omega))) ?_
        | refine r_obj rfl rfl (by first | omega | exact Nat.le_of_ble_eq_true rfl | (simp_all; done) | (simp_all; omega) | ((repeat' refine And.intro ?_ ?_) <;> first | omega | rfl | exact Nat.le_of_ble_eq_true rfl | exact bytesF_one _ | (simp_all; done) | (simp_all; omega))) ?_ | refine r_sto rfl (by first | omega | exact Nat.le_of_ble_eq_true rfl | (simp_all; done) | (simp_all; omega) | ((repeat' refine And.intro ?_ ?_) <;> first | omega | rfl | exact Nat.le_of_ble_eq_true rfl | exact bytesF_one _ | (simp_all; done) | (simp_all; omega))) ?_ | refine r_gobj rfl rfl rfl rfl (by first | omega | exact Nat.le_of_ble_eq_true rfl | (simp_all; done) | (simp_all; omega) | ((repeat' refine And.intro ?_ ?_) <;> first | omega | rfl | exact Nat.le_of_ble_eq_true rfl | exact bytesF_one _ | (simp_all; done) | (simp_all; omega))) ?_
        | refine e_hit rfl ?_ | refine e_miss rfl ?_
        | refine ⟨by kernel_rfl, ?_⟩ | refine x_endw rfl ?_ | refine n_endw rfl ?_ | refine r_call rfl rfl Try.call63 rfl (rfield_ctr s j (by omega) (by omega) (by omega)) ?_ | refine r_call rfl rfl Try.call64 rfl (end_ctr s (fieldF s j).2.1 (by omega) (by omega) (by omega)) ?_ | ((with_reducible refine c_grd ?_); (fail_if_success (refine c_lit true rfl rfl rfl ?_)); (fail_if_success (refine c_lit false rfl rfl rfl ?_)); refine c_split rfl rfl (fun _ => ?_) (fun _ => ?_)))
      · have := hbad ‹_›
        rw [hp, ← h4, tabG_bad h1 hlt hne (by rw [this]; assumption), this]; exact .tu3 (.nil ..) (.refl _) (.refl _)
      · rw [hform (hgood ‹_› (fun _ => by omega)) ‹_› ‹_›]; exact .tu3 (.nil ..) (.refl _) (.refl _)
      · obtain ⟨y, k1, k2, rfl⟩ := hmore (hgood ‹_› (fun _ => by omega)) (fun _ => ‹_›)
        exact ⟨_, k1, k2, ⟨rfl, rfl, gs_tab 5 rows _ _ (congrArg (fun d => [d]) hrow), trivial⟩, ⟨by rw [List.length_append]; rfl, trivial⟩, rfl, by rw [hX]; simp⟩
      · obtain ⟨y, k1, k2, rfl⟩ := hmore (hgood ‹_› (fun _ => by omega)) (fun _ => by omega)
        exact ⟨_, k1, k2, ⟨rfl, rfl, gs_tab 5 rows _ _ (congrArg (fun d => [d]) hrow), trivial⟩, ⟨by rw [List.length_append]; rfl, trivial⟩, rfl, by rw [hX]; simp⟩
      · rw [hform (hgood ‹_› (fun _ => by assumption)) ‹_› ‹_›]; exact .tu3 (.nil ..) (.refl _) (.refl _)
      · obtain ⟨y, k1, k2, rfl⟩ := hmore (hgood ‹_› (fun _ => by assumption)) (fun _ => ‹_›)
        exact ⟨_, k1, k2, ⟨rfl, rfl, gs_tab 5 rows _ _ (congrArg (fun d => [d]) hrow), trivial⟩, ⟨by rw [List.length_append]; rfl, trivial⟩, rfl, by rw [hX]; simp⟩
      · obtain ⟨y, k1, k2, rfl⟩ := hmore (hgood ‹_› (fun _ => by assumption)) (fun _ => by omega)
        exact ⟨_, k1, k2, ⟨rfl, rfl, gs_tab 5 rows _ _ (congrArg (fun d => [d]) hrow), trivial⟩, ⟨by rw [List.length_append]; rfl, trivial⟩, rfl, by rw [hX]; simp⟩
      · have e : rowG s ((fieldF s j).2.1 + 1) (l ++ [(fieldF s j).1]) = rowG s i [] := by rw [← g4]; exact (rowG_more g1 g2 ‹_› (by omega) ‹_›).symm
        exact ⟨((fieldF s j).2.1 + 1, l ++ [(fieldF s j).1]), ⟨by dsimp only; omega, by dsimp only; omega, by simp; omega, e⟩, by dsimp only; omega,
          ⟨rfl, rfl, rfl, rfl, gs_row 8 l _ _ rfl, trivial⟩, ⟨rfl, by rw [List.length_append]; rfl, trivial⟩, rfl, by rw [hX]; simp⟩
    · rw [hp, ← h4, tabG_none ‹_›]; exact .refl _

end Go.Proofs.Ytejpliaomhpakaa.Flow
