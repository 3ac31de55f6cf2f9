/- CSV: the program's side: a field. -/
import Derived.Test.YteidmimpkipcfaaDoorCC6
namespace Go.Proofs.YteidmimpkipcfaaDoor.Flow
open Go

/-- A quoted field as the program reads it: its text even where what follows is wrong. -/
def quotP (s : List UInt8) (i : Int) (b : List UInt8) : List UInt8 × Int × Int :=
  if h : i < s.length then
    if at' s i ≠ 34 then quotP s (i + 1) (b ++ [s.getD i.toNat 0])
    else if i + 1 < s.length ∧ at' s (i + 1) = 34 then quotP s (i + 2) (b ++ [34])
    else if overF s (i + 1) then (b, i + 1, 0)
    else (b, i + 1, 3)
  else ([], i, 2)
termination_by (s.length - i).toNat
decreasing_by all_goals omega

theorem quotP_eq (s : List UInt8) (i : Int) (b : List UInt8) : (quotP s i b).2 = (quotF s i b).2 ∧ ((quotF s i b).2.2 = 0 → (quotP s i b).1 = (quotF s i b).1) := by
  fun_induction quotF s i b with
  | case1 i b h h2 ih => unfold quotP; rw [dif_pos h, if_pos h2]; exact ih
  | case2 i b h h2 h3 ih => unfold quotP; rw [dif_pos h, if_neg h2, if_pos h3]; exact ih
  | case3 i b h h2 h3 h4 => unfold quotP; rw [dif_pos h, if_neg h2, if_neg h3, if_pos h4]; simp
  | case4 i b h h2 h3 h4 => unfold quotP; rw [dif_pos h, if_neg h2, if_neg h3, if_neg h4]; simp
  | case5 i b h => unfold quotP; rw [dif_neg h]; simp

section
variable {s : List UInt8} {j : Int} {b : List UInt8}
theorem quotP_more (h : j < s.length) (h2 : ¬ at' s j = 34) : quotP s j b = quotP s (j + 1) (b ++ [s.getD j.toNat 0]) := by
  conv => lhs; unfold quotP
  rw [dif_pos h, if_pos h2]
theorem quotP_two (h : j < s.length) (h2 : at' s j = 34) (h3 : j + 1 < s.length) (h4 : at' s (j + 1) = 34) : quotP s j b = quotP s (j + 2) (b ++ [34]) := by
  conv => lhs; unfold quotP
  rw [dif_pos h, if_neg (by simpa using h2), if_pos ⟨h3, h4⟩]
theorem quotP_end (h : j < s.length) (h2 : at' s j = 34) (h3 : j + 1 < s.length → ¬ at' s (j + 1) = 34) : quotP s j b = if overF s (j + 1) then (b, j + 1, 0) else (b, j + 1, 3) := by
  conv => lhs; unfold quotP
  rw [dif_pos h, if_neg (by simpa using h2), if_neg (fun h => h3 h.1 h.2)]
theorem quotP_none (h : ¬ j < s.length) : quotP s j b = ([], j, 2) := by
  conv => lhs; unfold quotP
  rw [dif_neg h]
end

set_option maxHeartbeats 4000000 in
theorem quoted_ctr (s : List UInt8) (i : Int) (hs : s.length ≤ 1099511627776) (hi : 0 ≤ i) (hi2 : i < s.length) :
    CtrO Tryd.prog 143 [.pv 0 0] [(0, .var (rd s i 0))] (.s (quotP s (i + 1) []).1) [(0, .var (rd s (quotP s (i + 1) []).2.1 (quotP s (i + 1) []).2.2))] := by
  refine r_meth Tryd.func143 rfl Tryd.ntmps143 Tryd.results143 rfl rfl rfl fun X hL hX => ?_
  repeat' (first
    | with_reducible refine t_seq ?_ | with_reducible refine t_region ?_ | with_reducible refine c_nil ?_ | with_reducible refine n_then ?_
    | with_reducible refine t_ret ?_ | with_reducible refine t_skip ?_ | with_reducible refine t_exit ?_ | with_reducible refine t_block ?_
    | with_reducible refine n_block ?_ | with_reducible refine e_then ?_ | with_reducible refine x_then ?_ | with_reducible refine x_block ?_ | with_reducible refine t_draw ?_
    | refine r_val rfl rfl True.intro ?_ | refine r_gskip rfl rfl rfl ?_ | refine r_gskip2 rfl rfl rfl ?_ | refine r_gval rfl rfl rfl rfl True.intro ?_
    | refine t_true rfl ?_ | refine t_false rfl ?_
    | ((first | refine t_cond_d rfl (fun _ => ?_) (fun _ => ?_) | refine t_cond_i rfl (fun _ => ?_) (fun _ => ?_) | refine t_cond_j rfl (fun _ => ?_) (fun _ => ?_) | refine t_cond_s rfl (fun _ => ?_) (fun _ => ?_) | refine t_cond_n rfl (fun _ => ?_) (fun _ => ?_) | refine t_cond rfl (fun _ => ?_) (fun _ => ?_) | refine c_split_d rfl rfl (fun _ => ?_) (fun _ => ?_) | refine c_split_i rfl rfl (fun _ => ?_) (fun _ => ?_) | refine c_split_j rfl rfl (fun _ => ?_) (fun _ => ?_) | refine c_split_s rfl rfl (fun _ => ?_) (fun _ => ?_) | refine c_split_n rfl rfl (fun _ => ?_) (fun _ => ?_)) <;> try (first | contradiction | (exfalso; omega)))
    | refine r_val rfl rfl (by (first | omega | exact Nat.le_of_ble_eq_true rfl | (simp_all; done) | (simp_all; omega) | ((repeat' refine And.intro ?_ ?_) <;> first | omega | rfl | exact Nat.le_refl _ | exact Nat.le_of_ble_eq_true rfl | exact bytesF_one _ | (simp_all; done) | (simp_all; omega)))) ?_ | refine r_gval rfl rfl rfl rfl (by (first | omega | exact Nat.le_of_ble_eq_true rfl | (simp_all; done) | (simp_all; omega) | ((repeat' refine And.intro ?_ ?_) <;> first | omega | rfl | exact Nat.le_refl _ | exact Nat.le_of_ble_eq_true rfl | exact bytesF_one _ | (simp_all; done) | (simp_all; omega)))) ?_
    | refine r_obj rfl rfl (by (first | omega | exact Nat.le_of_ble_eq_true rfl | (simp_all; done) | (simp_all; omega) | ((repeat' refine And.intro ?_ ?_) <;> first | omega | rfl | exact Nat.le_refl _ | exact Nat.le_of_ble_eq_true rfl | exact bytesF_one _ | (simp_all; done) | (simp_all; omega)))) ?_ | refine r_sto rfl (by (first | omega | exact Nat.le_of_ble_eq_true rfl | (simp_all; done) | (simp_all; omega) | ((repeat' refine And.intro ?_ ?_) <;> first | omega | rfl | exact Nat.le_refl _ | exact Nat.le_of_ble_eq_true rfl | exact bytesF_one _ | (simp_all; done) | (simp_all; omega)))) ?_ | refine r_gobj rfl rfl rfl rfl (by (first | omega | exact Nat.le_of_ble_eq_true rfl | (simp_all; done) | (simp_all; omega) | ((repeat' refine And.intro ?_ ?_) <;> first | omega | rfl | exact Nat.le_refl _ | exact Nat.le_of_ble_eq_true rfl | exact bytesF_one _ | (simp_all; done) | (simp_all; omega)))) ?_
    | refine e_hit rfl ?_ | refine e_miss rfl ?_
    | refine ⟨by kernel_rfl, ?_⟩ | refine x_endO rfl rfl ?_ ?_ | refine n_endO rfl rfl ?_ ?_ | ((with_reducible refine c_grd ?_); (fail_if_success (refine c_lit true rfl rfl rfl ?_)); (fail_if_success (refine c_lit false rfl rfl rfl ?_)); refine c_split rfl rfl (fun _ => ?_) (fun _ => ?_)))
  refine T.adopt 3 3 5 1 (bytesF []) rfl rfl ?_
  refine T.loop hL (fun x : Int × List UInt8 => [(0, .pv 0 0), (3, .gs 3 1 x.2.length (bytesF x.2))]) (fun x => [(0, .var (rd s x.1 0)), (3, .row 5 1 x.2.length)])
    (fun x => 0 ≤ x.1 ∧ x.1 ≤ s.length ∧ x.2.length ≤ x.1.toNat ∧ quotP s x.1 x.2 = quotP s (i + 1) []) (fun x => (s.length - x.1).toNat) (i + 1, []) (by simp; omega)
    ⟨⟨rfl, rfl, trivial⟩, ⟨rfl, rfl, trivial⟩, rfl, by rw [hX]; simp⟩ ?_
  rintro ⟨j, b⟩ ⟨h1, h2, h3, h4⟩
  dsimp only at h1 h2 h3 h4 ⊢
  repeat' (first
    | with_reducible refine t_seq ?_ | with_reducible refine t_region ?_ | with_reducible refine c_nil ?_ | with_reducible refine n_then ?_
    | with_reducible refine t_ret ?_ | with_reducible refine t_skip ?_ | with_reducible refine t_exit ?_ | with_reducible refine t_block ?_
    | with_reducible refine n_block ?_ | with_reducible refine e_then ?_ | with_reducible refine x_then ?_ | with_reducible refine x_block ?_ | with_reducible refine t_draw ?_
    | refine r_val rfl rfl True.intro ?_ | refine r_gskip rfl rfl rfl ?_ | refine r_gskip2 rfl rfl rfl ?_ | refine r_gval rfl rfl rfl rfl True.intro ?_
    | refine t_true rfl ?_ | refine t_false rfl ?_
    | ((first | refine t_cond_d rfl (fun _ => ?_) (fun _ => ?_) | refine t_cond_i rfl (fun _ => ?_) (fun _ => ?_) | refine t_cond_j rfl (fun _ => ?_) (fun _ => ?_) | refine t_cond_s rfl (fun _ => ?_) (fun _ => ?_) | refine t_cond_n rfl (fun _ => ?_) (fun _ => ?_) | refine t_cond rfl (fun _ => ?_) (fun _ => ?_) | refine c_split_d rfl rfl (fun _ => ?_) (fun _ => ?_) | refine c_split_i rfl rfl (fun _ => ?_) (fun _ => ?_) | refine c_split_j rfl rfl (fun _ => ?_) (fun _ => ?_) | refine c_split_s rfl rfl (fun _ => ?_) (fun _ => ?_) | refine c_split_n rfl rfl (fun _ => ?_) (fun _ => ?_)) <;> try (first | contradiction | (exfalso; omega)))
    | refine r_val rfl rfl (by (first | omega | exact Nat.le_of_ble_eq_true rfl | (simp_all; done) | (simp_all; omega) | ((repeat' refine And.intro ?_ ?_) <;> first | omega | rfl | exact Nat.le_refl _ | exact Nat.le_of_ble_eq_true rfl | exact bytesF_one _ | (simp_all; done) | (simp_all; omega)))) ?_ | refine r_gval rfl rfl rfl rfl (by (first | omega | exact Nat.le_of_ble_eq_true rfl | (simp_all; done) | (simp_all; omega) | ((repeat' refine And.intro ?_ ?_) <;> first | omega | rfl | exact Nat.le_refl _ | exact Nat.le_of_ble_eq_true rfl | exact bytesF_one _ | (simp_all; done) | (simp_all; omega)))) ?_
    | refine r_obj rfl rfl (by (first | omega | exact Nat.le_of_ble_eq_true rfl | (simp_all; done) | (simp_all; omega) | ((repeat' refine And.intro ?_ ?_) <;> first | omega | rfl | exact Nat.le_refl _ | exact Nat.le_of_ble_eq_true rfl | exact bytesF_one _ | (simp_all; done) | (simp_all; omega)))) ?_ | refine r_sto rfl (by (first | omega | exact Nat.le_of_ble_eq_true rfl | (simp_all; done) | (simp_all; omega) | ((repeat' refine And.intro ?_ ?_) <;> first | omega | rfl | exact Nat.le_refl _ | exact Nat.le_of_ble_eq_true rfl | exact bytesF_one _ | (simp_all; done) | (simp_all; omega)))) ?_ | refine r_gobj rfl rfl rfl rfl (by (first | omega | exact Nat.le_of_ble_eq_true rfl | (simp_all; done) | (simp_all; omega) | ((repeat' refine And.intro ?_ ?_) <;> first | omega | rfl | exact Nat.le_refl _ | exact Nat.le_of_ble_eq_true rfl | exact bytesF_one _ | (simp_all; done) | (simp_all; omega)))) ?_
    | refine e_hit rfl ?_ | refine e_miss rfl ?_
    | refine ⟨by kernel_rfl, ?_⟩ | refine x_endO rfl rfl ?_ ?_ | refine n_endO rfl rfl ?_ ?_ | refine r_lend (f := 144) 0 rfl rfl Tryd.call144 rfl rfl rfl rfl rfl (ends_ctr s (j + 1) 0 (by omega) (by omega) (by omega)) ?_ | refine r_lend (f := 145) 0 rfl rfl Tryd.call145 rfl rfl rfl rfl rfl (fail_ctr s (j + 1) 0 3) ?_ | refine r_lend (f := 145) 0 rfl rfl Tryd.call145 rfl rfl rfl rfl rfl (fail_ctr s j 0 2) ?_ | ((with_reducible refine c_grd ?_); (fail_if_success (refine c_lit true rfl rfl rfl ?_)); (fail_if_success (refine c_lit false rfl rfl rfl ?_)); refine c_split rfl rfl (fun _ => ?_) (fun _ => ?_)))
  all_goals first
    | (rw [← h4, quotP_none ‹_›] <;> rfl)
    | (rw [← h4, quotP_end ‹_› ‹_› (fun _ => by first | assumption | omega)]; simp only [*, bytesOf_bytesF, if_true, Bool.false_eq_true, if_false]; done)
    | skip
  · have e34 : s.getD j.toNat 0 = 34 := (at_eq s j 34 (by omega)).1 ‹_›
    exact ⟨(j + 1 + 1, b ++ [s.getD j.toNat 0]), ⟨by dsimp only; omega, by dsimp only; omega, by simp; omega, by rw [← h4, show quotP s j b = _ from quotP_two ‹_› ‹_› (by omega) ‹_›, e34]; dsimp only; rw [show j + 1 + 1 = j + 2 by omega]⟩, by dsimp only; omega,
      ⟨rfl, gs_byte 3 b _ _ rfl, trivial⟩, ⟨rfl, by rw [List.length_append]; rfl, trivial⟩, rfl, by rw [hX]; simp⟩
  · exact ⟨(j + 1, b ++ [s.getD j.toNat 0]), ⟨by dsimp only; omega, by dsimp only; omega, by simp; omega, by rw [← h4]; exact (quotP_more ‹_› ‹_›).symm⟩, by dsimp only; omega,
      ⟨rfl, gs_byte 3 b _ _ rfl, trivial⟩, ⟨rfl, by rw [List.length_append]; rfl, trivial⟩, rfl, by rw [hX]; simp⟩

def sub (s : List UInt8) (i j : Int) : List UInt8 := (s.take j.toNat).drop i.toNat

theorem sub_more (s : List UInt8) (i j : Int) (hi : 0 ≤ i) (hij : i ≤ j) (hj : j < s.length) : sub s i (j + 1) = sub s i j ++ [s.getD j.toNat 0] := by
  unfold sub
  rw [show (j + 1).toNat = j.toNat + 1 by omega, List.take_add_one, List.drop_append_of_le_length (by simp; omega)]
  congr 1
  simp [List.getD_eq_getElem?_getD, show j.toNat < s.length by omega]

theorem sub_self (s : List UInt8) (i : Int) : sub s i i = [] := by
  unfold sub
  simp

def fieldP (s : List UInt8) (i : Int) : List UInt8 × Int × Int :=
  if i < s.length ∧ at' s i = 34 then quotP s (i + 1) [] else plainF s i []

theorem fieldP_eq (s : List UInt8) (i : Int) : (fieldP s i).2 = (fieldF s i).2 ∧ ((fieldF s i).2.2 = 0 → (fieldP s i).1 = (fieldF s i).1) := by
  unfold fieldP fieldF
  split
  · exact quotP_eq ..
  · exact ⟨rfl, fun _ => rfl⟩

set_option maxHeartbeats 4000000 in
theorem field_ctr (s : List UInt8) (i : Int) (hs : s.length ≤ 1099511627776) (hi : 0 ≤ i) (hi2 : i ≤ s.length) :
    CtrO Tryd.prog 110 [.pv 0 0] [(0, .var (rd s i 0))] (.s (fieldP s i).1) [(0, .var (rd s (fieldP s i).2.1 (fieldP s i).2.2))] := by
  refine r_meth Tryd.func110 rfl Tryd.ntmps110 Tryd.results110 rfl rfl rfl fun X hL hX => ?_
  have hq : i < s.length → at' s i = 34 → fieldP s i = quotP s (i + 1) [] := fun h h2 => if_pos ⟨h, h2⟩
  repeat' (first
    | with_reducible refine t_seq ?_ | with_reducible refine t_region ?_ | with_reducible refine c_nil ?_ | with_reducible refine n_then ?_
    | with_reducible refine t_ret ?_ | with_reducible refine t_skip ?_ | with_reducible refine t_exit ?_ | with_reducible refine t_block ?_
    | with_reducible refine n_block ?_ | with_reducible refine e_then ?_ | with_reducible refine x_then ?_ | with_reducible refine x_block ?_ | with_reducible refine t_draw ?_
    | refine r_val rfl rfl True.intro ?_ | refine r_gskip rfl rfl rfl ?_ | refine r_gskip2 rfl rfl rfl ?_ | refine r_gval rfl rfl rfl rfl True.intro ?_
    | refine t_true rfl ?_ | refine t_false rfl ?_
    | ((first | refine t_cond_d rfl (fun _ => ?_) (fun _ => ?_) | refine t_cond_i rfl (fun _ => ?_) (fun _ => ?_) | refine t_cond_j rfl (fun _ => ?_) (fun _ => ?_) | refine t_cond_s rfl (fun _ => ?_) (fun _ => ?_) | refine t_cond_n rfl (fun _ => ?_) (fun _ => ?_) | refine t_cond rfl (fun _ => ?_) (fun _ => ?_) | refine c_split_d rfl rfl (fun _ => ?_) (fun _ => ?_) | refine c_split_i rfl rfl (fun _ => ?_) (fun _ => ?_) | refine c_split_j rfl rfl (fun _ => ?_) (fun _ => ?_) | refine c_split_s rfl rfl (fun _ => ?_) (fun _ => ?_) | refine c_split_n rfl rfl (fun _ => ?_) (fun _ => ?_)) <;> try (first | contradiction | (exfalso; omega)))
    | refine r_val rfl rfl (by (first | omega | exact Nat.le_of_ble_eq_true rfl | (simp_all; done) | (simp_all; omega) | ((repeat' refine And.intro ?_ ?_) <;> first | omega | rfl | exact Nat.le_refl _ | exact Nat.le_of_ble_eq_true rfl | exact bytesF_one _ | (simp_all; done) | (simp_all; omega)))) ?_ | refine r_gval rfl rfl rfl rfl (by (first | omega | exact Nat.le_of_ble_eq_true rfl | (simp_all; done) | (simp_all; omega) | ((repeat' refine And.intro ?_ ?_) <;> first | omega | rfl | exact Nat.le_refl _ | exact Nat.le_of_ble_eq_true rfl | exact bytesF_one _ | (simp_all; done) | (simp_all; omega)))) ?_
    | refine r_obj rfl rfl (by (first | omega | exact Nat.le_of_ble_eq_true rfl | (simp_all; done) | (simp_all; omega) | ((repeat' refine And.intro ?_ ?_) <;> first | omega | rfl | exact Nat.le_refl _ | exact Nat.le_of_ble_eq_true rfl | exact bytesF_one _ | (simp_all; done) | (simp_all; omega)))) ?_ | refine r_sto rfl (by (first | omega | exact Nat.le_of_ble_eq_true rfl | (simp_all; done) | (simp_all; omega) | ((repeat' refine And.intro ?_ ?_) <;> first | omega | rfl | exact Nat.le_refl _ | exact Nat.le_of_ble_eq_true rfl | exact bytesF_one _ | (simp_all; done) | (simp_all; omega)))) ?_ | refine r_gobj rfl rfl rfl rfl (by (first | omega | exact Nat.le_of_ble_eq_true rfl | (simp_all; done) | (simp_all; omega) | ((repeat' refine And.intro ?_ ?_) <;> first | omega | rfl | exact Nat.le_refl _ | exact Nat.le_of_ble_eq_true rfl | exact bytesF_one _ | (simp_all; done) | (simp_all; omega)))) ?_
    | refine e_hit rfl ?_ | refine e_miss rfl ?_
    | refine ⟨by kernel_rfl, ?_⟩ | refine x_endO rfl rfl ?_ ?_ | refine n_endO rfl rfl ?_ ?_ | refine r_lend (f := 143) 0 rfl rfl Tryd.call143 rfl rfl rfl rfl rfl (quoted_ctr s i (by omega) (by omega) (by omega)) ?_ | ((with_reducible refine c_grd ?_); (fail_if_success (refine c_lit true rfl rfl rfl ?_)); (fail_if_success (refine c_lit false rfl rfl rfl ?_)); refine c_split rfl rfl (fun _ => ?_) (fun _ => ?_)))
  · rw [hq ‹_› ‹_›]
  · rw [hq ‹_› ‹_›]
  all_goals
    have hf : fieldP s i = plainF s i [] := if_neg (by rintro ⟨_, _⟩; contradiction)
    refine T.loop hL (fun j : Int => [(0, .pv 0 0), (3, .i .i64 i)]) (fun j => [(0, .var (rd s j 0))])
      (fun j => i ≤ j ∧ j ≤ s.length ∧ plainF s j (sub s i j) = plainF s i []) (fun j => (s.length - j).toNat) i ⟨by omega, by omega, by rw [sub_self]⟩
      ⟨⟨rfl, rfl, trivial⟩, ⟨rfl, trivial⟩, rfl, by rw [hX]; simp⟩ ?_
    rintro j ⟨h1, h2, h4⟩
    try dsimp only at h1 h2 h4 ⊢
    have hj : overF s j = false → j < s.length := overF_lt
    repeat' (first
      | with_reducible refine t_seq ?_ | with_reducible refine t_region ?_ | with_reducible refine c_nil ?_ | with_reducible refine n_then ?_
      | with_reducible refine t_ret ?_ | with_reducible refine t_skip ?_ | with_reducible refine t_exit ?_ | with_reducible refine t_block ?_
      | with_reducible refine n_block ?_ | with_reducible refine e_then ?_ | with_reducible refine x_then ?_ | with_reducible refine x_block ?_ | with_reducible refine t_draw ?_
      | refine r_val rfl rfl True.intro ?_ | refine r_gskip rfl rfl rfl ?_ | refine r_gskip2 rfl rfl rfl ?_ | refine r_gval rfl rfl rfl rfl True.intro ?_
      | refine t_true rfl ?_ | refine t_false rfl ?_
      | ((first | refine t_cond_d rfl (fun _ => ?_) (fun _ => ?_) | refine t_cond_i rfl (fun _ => ?_) (fun _ => ?_) | refine t_cond_j rfl (fun _ => ?_) (fun _ => ?_) | refine t_cond_s rfl (fun _ => ?_) (fun _ => ?_) | refine t_cond_n rfl (fun _ => ?_) (fun _ => ?_) | refine t_cond rfl (fun _ => ?_) (fun _ => ?_) | refine c_split_d rfl rfl (fun _ => ?_) (fun _ => ?_) | refine c_split_i rfl rfl (fun _ => ?_) (fun _ => ?_) | refine c_split_j rfl rfl (fun _ => ?_) (fun _ => ?_) | refine c_split_s rfl rfl (fun _ => ?_) (fun _ => ?_) | refine c_split_n rfl rfl (fun _ => ?_) (fun _ => ?_)) <;> try (first | contradiction | (exfalso; omega)))
      | refine r_val rfl rfl (by (first | omega | exact Nat.le_of_ble_eq_true rfl | (simp_all; done) | (simp_all; omega) | ((repeat' refine And.intro ?_ ?_) <;> first | omega | rfl | exact Nat.le_refl _ | exact Nat.le_of_ble_eq_true rfl | exact bytesF_one _ | (simp_all; done) | (simp_all; omega)))) ?_ | refine r_gval rfl rfl rfl rfl (by (first | omega | exact Nat.le_of_ble_eq_true rfl | (simp_all; done) | (simp_all; omega) | ((repeat' refine And.intro ?_ ?_) <;> first | omega | rfl | exact Nat.le_refl _ | exact Nat.le_of_ble_eq_true rfl | exact bytesF_one _ | (simp_all; done) | (simp_all; omega)))) ?_
      | refine r_obj rfl rfl (by (first | omega | exact Nat.le_of_ble_eq_true rfl | (simp_all; done) | (simp_all; omega) | ((repeat' refine And.intro ?_ ?_) <;> first | omega | rfl | exact Nat.le_refl _ | exact Nat.le_of_ble_eq_true rfl | exact bytesF_one _ | (simp_all; done) | (simp_all; omega)))) ?_ | refine r_sto rfl (by (first | omega | exact Nat.le_of_ble_eq_true rfl | (simp_all; done) | (simp_all; omega) | ((repeat' refine And.intro ?_ ?_) <;> first | omega | rfl | exact Nat.le_refl _ | exact Nat.le_of_ble_eq_true rfl | exact bytesF_one _ | (simp_all; done) | (simp_all; omega)))) ?_ | refine r_gobj rfl rfl rfl rfl (by (first | omega | exact Nat.le_of_ble_eq_true rfl | (simp_all; done) | (simp_all; omega) | ((repeat' refine And.intro ?_ ?_) <;> first | omega | rfl | exact Nat.le_refl _ | exact Nat.le_of_ble_eq_true rfl | exact bytesF_one _ | (simp_all; done) | (simp_all; omega)))) ?_
      | refine e_hit rfl ?_ | refine e_miss rfl ?_
      | refine ⟨by kernel_rfl, ?_⟩ | refine x_endO rfl rfl ?_ ?_ | refine n_endO rfl rfl ?_ ?_ | refine r_lend (f := 144) 0 rfl rfl Tryd.call144 rfl rfl rfl rfl rfl (ends_ctr s j 0 (by omega) (by omega) (by omega)) ?_ | refine r_lend (f := 145) 0 rfl rfl Tryd.call145 rfl rfl rfl rfl rfl (fail_ctr s j 0 3) ?_ | ((with_reducible refine c_grd ?_); (fail_if_success (refine c_lit true rfl rfl rfl ?_)); (fail_if_success (refine c_lit false rfl rfl rfl ?_)); refine c_split rfl rfl (fun _ => ?_) (fun _ => ?_)))
    all_goals first
      | (rw [hf, ← h4, plainF_bad ‹_› (.inl ‹_›)] <;> rfl)
      | (rw [hf, ← h4, plainF_bad ‹_› (.inr ‹_›)] <;> rfl)
      | (rw [hf, ← h4, plainF_over ‹_›] <;> rfl)
      | exact ⟨j + 1, ⟨by omega, by have := hj ‹_›; omega, by rw [← h4, sub_more s i j (by omega) (by omega) (hj ‹_›)]; exact (plainF_more ‹_› ‹_› ‹_›).symm⟩, by have := hj ‹_›; omega, ⟨rfl, rfl, trivial⟩, ⟨rfl, trivial⟩, rfl, by rw [hX]; simp⟩
      | skip

end Go.Proofs.YteidmimpkipcfaaDoor.Flow
