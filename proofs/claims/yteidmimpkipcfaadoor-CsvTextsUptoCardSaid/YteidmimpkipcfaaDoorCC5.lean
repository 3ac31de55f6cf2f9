/- CSV: the document's Same. -/
import Derived.Test.YteidmimpkipcfaaDoorCC4
namespace Go.Proofs.YteidmimpkipcfaaDoor.Flow
open Go

theorem take_next {α : Type} [Inhabited α] (d : α) {a b : List α} {i : Nat} (h : a.take i = b.take i) (ha : i < a.length) (hb : i < b.length) (he : a.getD i d = b.getD i d) : a.take (i + 1) = b.take (i + 1) := by
  rw [List.take_add_one, List.take_add_one, h]
  simp only [List.getD_eq_getElem?_getD, List.getElem?_eq_getElem ha, List.getElem?_eq_getElem hb, Option.getD_some, Option.toList_some] at he ⊢
  rw [he]

theorem take_all {α : Type} {a b : List α} {i : Nat} (h : a.take i = b.take i) (hl : a.length = b.length) (hi : a.length ≤ i) : a = b := by
  rwa [List.take_of_length_le hi, List.take_of_length_le (by omega)] at h

set_option maxHeartbeats 4000000 in
theorem rsame_ctr (a b : List (List (List UInt8))) (ha : a.length ≤ 1099511627776) (hb : b.length ≤ 1099511627776) (ha2 : ∀ i, (a.getD i []).length ≤ 1099511627776) : Ctr Tryd.prog 30 [.sl 1 a.length (tabF a), .sl 1 b.length (tabF b)] (.b (decide (a = b))) := by
  refine r_fun Tryd.func30 rfl Tryd.ntmps30 Tryd.results30 rfl rfl fun X hL hX => ?_
  repeat' (first
    | with_reducible refine t_seq ?_ | with_reducible refine t_region ?_ | with_reducible refine c_nil ?_ | with_reducible refine n_then ?_
    | with_reducible refine t_ret ?_ | with_reducible refine t_skip ?_ | with_reducible refine t_exit ?_ | with_reducible refine t_block ?_
    | with_reducible refine n_block ?_ | with_reducible refine e_then ?_ | with_reducible refine x_then ?_ | with_reducible refine x_block ?_ | with_reducible refine t_draw ?_
    | refine r_val rfl rfl True.intro ?_ | refine r_gskip rfl rfl rfl ?_ | refine r_gskip2 rfl rfl rfl ?_ | refine r_gval rfl rfl rfl rfl True.intro ?_
    | refine t_true rfl ?_ | refine t_false rfl ?_
    | ((first | refine t_cond_d rfl (fun _ => ?_) (fun _ => ?_) | refine t_cond_i rfl (fun _ => ?_) (fun _ => ?_) | refine t_cond_j rfl (fun _ => ?_) (fun _ => ?_) | refine t_cond_s rfl (fun _ => ?_) (fun _ => ?_) | refine t_cond_n rfl (fun _ => ?_) (fun _ => ?_) | refine t_cond rfl (fun _ => ?_) (fun _ => ?_) | refine c_split_d rfl rfl (fun _ => ?_) (fun _ => ?_) | refine c_split_i rfl rfl (fun _ => ?_) (fun _ => ?_) | refine c_split_j rfl rfl (fun _ => ?_) (fun _ => ?_) | refine c_split_s rfl rfl (fun _ => ?_) (fun _ => ?_) | refine c_split_n rfl rfl (fun _ => ?_) (fun _ => ?_)) <;> try (first | contradiction | (exfalso; omega)))
    | refine r_val rfl rfl (by (first | omega | exact Nat.le_of_ble_eq_true rfl | (simp_all; done) | (simp_all; omega) | ((repeat' refine And.intro ?_ ?_) <;> first | omega | rfl | exact Nat.le_refl _ | exact Nat.le_of_ble_eq_true rfl | exact bytesF_one _ | (simp_all; done) | (simp_all; omega)))) ?_ | refine r_gval rfl rfl rfl rfl (by (first | omega | exact Nat.le_of_ble_eq_true rfl | (simp_all; done) | (simp_all; omega) | ((repeat' refine And.intro ?_ ?_) <;> first | omega | rfl | exact Nat.le_refl _ | exact Nat.le_of_ble_eq_true rfl | exact bytesF_one _ | (simp_all; done) | (simp_all; omega)))) ?_
    | refine r_obj rfl rfl (by (first | omega | exact Nat.le_of_ble_eq_true rfl | (simp_all; done) | (simp_all; omega) | ((repeat' refine And.intro ?_ ?_) <;> first | omega | rfl | exact Nat.le_refl _ | exact Nat.le_of_ble_eq_true rfl | exact bytesF_one _ | (simp_all; done) | (simp_all; omega)))) ?_ | refine r_sto rfl (by (first | omega | exact Nat.le_of_ble_eq_true rfl | (simp_all; done) | (simp_all; omega) | ((repeat' refine And.intro ?_ ?_) <;> first | omega | rfl | exact Nat.le_refl _ | exact Nat.le_of_ble_eq_true rfl | exact bytesF_one _ | (simp_all; done) | (simp_all; omega)))) ?_ | refine r_gobj rfl rfl rfl rfl (by (first | omega | exact Nat.le_of_ble_eq_true rfl | (simp_all; done) | (simp_all; omega) | ((repeat' refine And.intro ?_ ?_) <;> first | omega | rfl | exact Nat.le_refl _ | exact Nat.le_of_ble_eq_true rfl | exact bytesF_one _ | (simp_all; done) | (simp_all; omega)))) ?_
    | refine e_hit rfl ?_ | refine e_miss rfl ?_
    | refine ⟨by kernel_rfl, ?_⟩ | refine x_end rfl ?_ | refine n_end rfl ?_ | ((with_reducible refine c_grd ?_); (fail_if_success (refine c_lit true rfl rfl rfl ?_)); (fail_if_success (refine c_lit false rfl rfl rfl ?_)); refine c_split rfl rfl (fun _ => ?_) (fun _ => ?_)))
  · have : a ≠ b := fun h => by subst h; contradiction
    simp [this]
  · have hlen : a.length = b.length := by omega
    refine T.loop hL (fun i : Nat => [(0, .sl 1 a.length (tabF a)), (1, .sl 1 b.length (tabF b)), (5, .i .i64 i)]) (fun _ => [])
      (fun i => i ≤ a.length ∧ a.take i = b.take i) (fun i => a.length - i) 0 ⟨by omega, by simp⟩
      ⟨⟨rfl, rfl, rfl, trivial⟩, trivial, rfl, by rw [hX]; simp⟩ ?_
    rintro i ⟨h1, h2⟩
    try dsimp only at h1 h2 ⊢
    repeat' (first
      | with_reducible refine t_seq ?_ | with_reducible refine t_region ?_ | with_reducible refine c_nil ?_ | with_reducible refine n_then ?_
      | with_reducible refine t_ret ?_ | with_reducible refine t_skip ?_ | with_reducible refine t_exit ?_ | with_reducible refine t_block ?_
      | with_reducible refine n_block ?_ | with_reducible refine e_then ?_ | with_reducible refine x_then ?_ | with_reducible refine x_block ?_ | with_reducible refine t_draw ?_
      | refine r_val rfl rfl True.intro ?_ | refine r_gskip rfl rfl rfl ?_ | refine r_gskip2 rfl rfl rfl ?_ | refine r_gval rfl rfl rfl rfl True.intro ?_
      | refine t_true rfl ?_ | refine t_false rfl ?_
      | ((first | refine t_cond_d rfl (fun _ => ?_) (fun _ => ?_) | refine t_cond_i rfl (fun _ => ?_) (fun _ => ?_) | refine t_cond_j rfl (fun _ => ?_) (fun _ => ?_) | refine t_cond_s rfl (fun _ => ?_) (fun _ => ?_) | refine t_cond_n rfl (fun _ => ?_) (fun _ => ?_) | refine t_cond rfl (fun _ => ?_) (fun _ => ?_) | refine c_split_d rfl rfl (fun _ => ?_) (fun _ => ?_) | refine c_split_i rfl rfl (fun _ => ?_) (fun _ => ?_) | refine c_split_j rfl rfl (fun _ => ?_) (fun _ => ?_) | refine c_split_s rfl rfl (fun _ => ?_) (fun _ => ?_) | refine c_split_n rfl rfl (fun _ => ?_) (fun _ => ?_)) <;> try (first | contradiction | (exfalso; omega)))
      | refine r_val rfl rfl (by (first | omega | exact Nat.le_of_ble_eq_true rfl | (simp_all; done) | (simp_all; omega) | ((repeat' refine And.intro ?_ ?_) <;> first | omega | rfl | exact Nat.le_refl _ | exact Nat.le_of_ble_eq_true rfl | exact bytesF_one _ | (simp_all; done) | (simp_all; omega)))) ?_ | refine r_gval rfl rfl rfl rfl (by (first | omega | exact Nat.le_of_ble_eq_true rfl | (simp_all; done) | (simp_all; omega) | ((repeat' refine And.intro ?_ ?_) <;> first | omega | rfl | exact Nat.le_refl _ | exact Nat.le_of_ble_eq_true rfl | exact bytesF_one _ | (simp_all; done) | (simp_all; omega)))) ?_
      | refine r_obj rfl rfl (by (first | omega | exact Nat.le_of_ble_eq_true rfl | (simp_all; done) | (simp_all; omega) | ((repeat' refine And.intro ?_ ?_) <;> first | omega | rfl | exact Nat.le_refl _ | exact Nat.le_of_ble_eq_true rfl | exact bytesF_one _ | (simp_all; done) | (simp_all; omega)))) ?_ | refine r_sto rfl (by (first | omega | exact Nat.le_of_ble_eq_true rfl | (simp_all; done) | (simp_all; omega) | ((repeat' refine And.intro ?_ ?_) <;> first | omega | rfl | exact Nat.le_refl _ | exact Nat.le_of_ble_eq_true rfl | exact bytesF_one _ | (simp_all; done) | (simp_all; omega)))) ?_ | refine r_gobj rfl rfl rfl rfl (by (first | omega | exact Nat.le_of_ble_eq_true rfl | (simp_all; done) | (simp_all; omega) | ((repeat' refine And.intro ?_ ?_) <;> first | omega | rfl | exact Nat.le_refl _ | exact Nat.le_of_ble_eq_true rfl | exact bytesF_one _ | (simp_all; done) | (simp_all; omega)))) ?_
      | refine e_hit rfl ?_ | refine e_miss rfl ?_
      | refine ⟨by kernel_rfl, ?_⟩ | refine x_end rfl ?_ | refine n_end rfl ?_ | ((with_reducible refine c_grd ?_); (fail_if_success (refine c_lit true rfl rfl rfl ?_)); (fail_if_success (refine c_lit false rfl rfl rfl ?_)); refine c_split rfl rfl (fun _ => ?_) (fun _ => ?_)))
    · have hne : ¬ (a.getD i []).length = (b.getD i []).length := by simp only [Int.toNat_natCast] at *; omega
      have : a ≠ b := fun h => by subst h; contradiction
      simp [this]
    · have hil : (a.getD i []).length = (b.getD i []).length := by simp only [Int.toNat_natCast] at *; omega
      have hi : i < a.length := by omega
      have hai := ha2 i
      refine T.loop hL (fun k : Nat => [(0, .sl 1 a.length (tabF a)), (1, .sl 1 b.length (tabF b)), (5, .i .i64 i), (6, .i .i64 k)]) (fun _ => [])
        (fun k => k ≤ (a.getD i []).length ∧ (a.getD i []).take k = (b.getD i []).take k) (fun k => (a.getD i []).length - k) 0 ⟨by omega, by simp⟩
        ⟨⟨rfl, rfl, rfl, rfl, trivial⟩, trivial, rfl, by rw [hX]; simp⟩ ?_
      rintro k ⟨g1, g2⟩
      try dsimp only at g1 g2 ⊢
      repeat' (first
        | with_reducible refine t_seq ?_ | with_reducible refine t_region ?_ | with_reducible refine c_nil ?_ | with_reducible refine n_then ?_
        | with_reducible refine t_ret ?_ | with_reducible refine t_skip ?_ | with_reducible refine t_exit ?_ | with_reducible refine t_block ?_
        | with_reducible refine n_block ?_ | with_reducible refine e_then ?_ | with_reducible refine x_then ?_ | with_reducible refine x_block ?_ | with_reducible refine t_draw ?_
        | refine r_val rfl rfl True.intro ?_ | refine r_gskip rfl rfl rfl ?_ | refine r_gskip2 rfl rfl rfl ?_ | refine r_gval rfl rfl rfl rfl True.intro ?_
        | refine t_true rfl ?_ | refine t_false rfl ?_
        | ((first | refine t_cond_d rfl (fun _ => ?_) (fun _ => ?_) | refine t_cond_i rfl (fun _ => ?_) (fun _ => ?_) | refine t_cond_j rfl (fun _ => ?_) (fun _ => ?_) | refine t_cond_s rfl (fun _ => ?_) (fun _ => ?_) | refine t_cond_n rfl (fun _ => ?_) (fun _ => ?_) | refine t_cond rfl (fun _ => ?_) (fun _ => ?_) | refine c_split_d rfl rfl (fun _ => ?_) (fun _ => ?_) | refine c_split_i rfl rfl (fun _ => ?_) (fun _ => ?_) | refine c_split_j rfl rfl (fun _ => ?_) (fun _ => ?_) | refine c_split_s rfl rfl (fun _ => ?_) (fun _ => ?_) | refine c_split_n rfl rfl (fun _ => ?_) (fun _ => ?_)) <;> try (first | contradiction | (exfalso; omega)))
        | refine r_val rfl rfl (by (first | omega | exact Nat.le_of_ble_eq_true rfl | (simp only [Int.toNat_natCast] at *; (repeat' refine And.intro ?_ ?_) <;> first | omega | rfl))) ?_ | refine r_gval rfl rfl rfl rfl (by (first | omega | exact Nat.le_of_ble_eq_true rfl | (simp only [Int.toNat_natCast] at *; (repeat' refine And.intro ?_ ?_) <;> first | omega | rfl))) ?_
        | refine r_obj rfl rfl (by (first | omega | exact Nat.le_of_ble_eq_true rfl | (simp only [Int.toNat_natCast] at *; (repeat' refine And.intro ?_ ?_) <;> first | omega | rfl))) ?_ | refine r_sto rfl (by (first | omega | exact Nat.le_of_ble_eq_true rfl | (simp only [Int.toNat_natCast] at *; (repeat' refine And.intro ?_ ?_) <;> first | omega | rfl))) ?_ | refine r_gobj rfl rfl rfl rfl (by (first | omega | exact Nat.le_of_ble_eq_true rfl | (simp only [Int.toNat_natCast] at *; (repeat' refine And.intro ?_ ?_) <;> first | omega | rfl))) ?_
        | refine e_hit rfl ?_ | refine e_miss rfl ?_
        | refine ⟨by kernel_rfl, ?_⟩ | refine x_end rfl ?_ | refine n_end rfl ?_ | ((with_reducible refine c_grd ?_); (fail_if_success (refine c_lit true rfl rfl rfl ?_)); (fail_if_success (refine c_lit false rfl rfl rfl ?_)); refine c_split rfl rfl (fun _ => ?_) (fun _ => ?_)))
      · simp only [Int.toNat_natCast] at *
        have : a ≠ b := fun h => by subst h; simp at *
        simp [this]
      · simp only [Int.toNat_natCast] at *
        have hk : k < (a.getD i []).length := by omega
        exact ⟨k + 1, ⟨by omega, take_next [] g2 hk (by omega) (eq_of_beq ‹_›)⟩, by omega, ⟨rfl, rfl, rfl, rfl, trivial⟩, trivial, rfl, by rw [hX]; simp⟩
      · simp only [Int.toNat_natCast] at *
        have := take_all g2 hil (by omega)
        exact ⟨i + 1, ⟨by omega, take_next [] h2 hi (by omega) this⟩, by omega, ⟨rfl, rfl, rfl, trivial⟩, trivial, rfl, by rw [hX]; simp⟩
    · have : a = b := take_all h2 hlen (by omega)
      simp [this]

end Go.Proofs.YteidmimpkipcfaaDoor.Flow
