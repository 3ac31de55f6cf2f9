/- CSV: a table's text. -/
import Derived.Test.YteidmimpkipcfaaDoorCC19
namespace Go.Proofs.YteidmimpkipcfaaDoor.Flow
open Go

theorem tailText_app : ∀ xs ys : List (List UInt8), tailText (xs ++ ys) = tailText xs ++ tailText ys
  | [], _ => rfl
  | x :: xs, ys => by simp [tailText, tailText_app xs ys]

theorem rowText_app {xs : List (List UInt8)} (h : xs ≠ []) (ys : List (List UInt8)) : rowText (xs ++ ys) = rowText xs ++ tailText ys := by
  cases xs with
  | nil => exact absurd rfl h
  | cons x xs => simp [rowText, tailText_app]

/-- A row's first fields. -/
def partR (l : List (List UInt8)) (k : Nat) : List UInt8 := rowText (encR (l.take k))

theorem partR_zero (l : List (List UInt8)) : partR l 0 = [] := rfl
theorem partR_all (l : List (List UInt8)) : partR l l.length = rowText (encR l) := by unfold partR; rw [List.take_length]

theorem take_snoc {α : Type} (d : α) {l : List α} {k : Nat} (h : k < l.length) : l.take (k + 1) = l.take k ++ [l.getD k d] := by
  rw [List.take_succ_eq_append_getElem h]
  simp [List.getD_eq_getElem?_getD, h]

theorem partR_one {l : List (List UInt8)} (h : 0 < l.length) : partR l (0 + 1) = encT (l.getD 0 []) := by
  unfold partR
  rw [take_snoc [] h]
  simp [encR, rowText, tailText]

theorem partR_more {l : List (List UInt8)} {k : Nat} (h : k < l.length) (h0 : 0 < k) : partR l (k + 1) = (partR l k ++ [44]) ++ encT (l.getD k []) := by
  unfold partR
  rw [take_snoc [] h]
  unfold encR
  rw [List.map_append, rowText_app]
  · simp [tailText]
  · intro e
    have := congrArg List.length e
    simp at this
    rcases this with rfl | rfl
    · omega
    · simp at h

theorem partR_le (l : List (List UInt8)) (k : Nat) : (partR l k).length ≤ (rowText (encR l)).length := by
  unfold partR
  by_cases h : l.take k = []
  · rw [h]
    simp [encR, rowText]
  · conv => rhs; rw [← List.take_append_drop k l]
    unfold encR
    rw [List.map_append, rowText_app (by simpa using h), List.length_append]
    omega

theorem csvT_app (a b : List (List (List UInt8))) : csvT (a ++ b) = csvT a ++ csvT b := by simp [csvT]

theorem csvT_take {rows : List (List (List UInt8))} {i : Nat} (h : i < rows.length) : csvT (rows.take (i + 1)) = (csvT (rows.take i) ++ partR (rows.getD i []) (rows.getD i []).length) ++ [13, 10] := by
  rw [take_snoc [] h, csvT_app, partR_all]
  simp [csvT]

theorem csvT_take_le (rows : List (List (List UInt8))) (i : Nat) : (csvT (rows.take i)).length ≤ (csvT rows).length := by
  conv => rhs; rw [← List.take_append_drop i rows, csvT_app, List.length_append]
  omega

theorem csvT_part_le {rows : List (List (List UInt8))} {i : Nat} (h : i < rows.length) (k : Nat) : (csvT (rows.take i) ++ partR (rows.getD i []) k).length + 2 ≤ (csvT rows).length := by
  have h1 := csvT_take_le rows (i + 1)
  rw [csvT_take h] at h1
  have h2 := partR_le (rows.getD i []) k
  rw [← partR_all] at h2
  simp only [List.length_append, List.length_cons, List.length_nil] at h1 ⊢
  omega

theorem csvT_part_lt {rows : List (List (List UInt8))} {i k : Nat} (h : i < rows.length) (hk : k < (rows.getD i []).length) : (csvT (rows.take i) ++ partR (rows.getD i []) k).length + (encT ((rows.getD i []).getD k [])).length + 2 ≤ (csvT rows).length := by
  have h1 := csvT_part_le h (k + 1)
  by_cases h0 : k = 0
  · subst h0
    rw [partR_one hk] at h1
    rw [partR_zero]
    simp only [List.length_append, List.length_nil] at h1 ⊢
    omega
  · rw [partR_more hk (by omega)] at h1
    simp only [List.length_append, List.length_cons, List.length_nil] at h1 ⊢
    omega

theorem bl_le {ow : Ow} {m M : List UInt8} (h : leOw ow (bl m)) (e : m = M) : leOw ow (bl M) := e ▸ h

set_option maxRecDepth 100000 in
set_option maxHeartbeats 4000000 in
theorem text_ctr (rows : List (List (List UInt8))) (ha : smallTab rows) (hT : (csvT rows).length ≤ 4194304) :
    Ctr Tryd.prog 24 [.sl 1 rows.length (tabF rows)] (.s (if rightTab rows then csvT rows else [])) := by
  have cR := cright_ctr rows ha
  obtain ⟨ha1, ha2⟩ := ha
  have c0 := string0_ctr
  by_cases hr : rightTab rows
  · rw [if_pos hr]
    rw [decide_eq_true hr] at cR
    by_cases hz : rows.length = 0
    · have hz2 : rows = [] := List.length_eq_zero_iff.1 hz
      subst hz2
      refine r_fun Tryd.func24 rfl Tryd.ntmps24 Tryd.results24 rfl rfl fun X hL hX => ?_
      repeat' (first
        | refine r_bld rfl rfl rfl ?_
        | with_reducible refine t_seq ?_ | with_reducible refine t_region ?_ | with_reducible refine c_nil ?_ | with_reducible refine n_then ?_
        | with_reducible refine t_ret ?_ | with_reducible refine t_skip ?_ | with_reducible refine t_exit ?_ | with_reducible refine t_block ?_
        | with_reducible refine n_block ?_ | with_reducible refine e_then ?_ | with_reducible refine x_then ?_ | with_reducible refine x_block ?_ | with_reducible refine t_draw ?_
        | refine r_val rfl rfl True.intro ?_ | refine r_gskip rfl rfl rfl ?_ | refine r_gskip2 rfl rfl rfl ?_ | refine r_gval rfl rfl rfl rfl True.intro ?_
        | refine t_true rfl ?_ | refine t_false rfl ?_
        | ((first | refine t_cond_d rfl (fun _ => ?_) (fun _ => ?_) | refine t_cond_i rfl (fun _ => ?_) (fun _ => ?_) | refine t_cond_j rfl (fun _ => ?_) (fun _ => ?_) | refine t_cond_s rfl (fun _ => ?_) (fun _ => ?_) | refine t_cond_n rfl (fun _ => ?_) (fun _ => ?_) | refine t_cond rfl (fun _ => ?_) (fun _ => ?_) | refine c_split_d rfl rfl (fun _ => ?_) (fun _ => ?_) | refine c_split_i rfl rfl (fun _ => ?_) (fun _ => ?_) | refine c_split_j rfl rfl (fun _ => ?_) (fun _ => ?_) | refine c_split_s rfl rfl (fun _ => ?_) (fun _ => ?_) | refine c_split_n rfl rfl (fun _ => ?_) (fun _ => ?_)) <;> try (first | contradiction | (exfalso; omega)))
        | refine r_val rfl rfl (by (first | omega | exact Nat.le_of_ble_eq_true rfl | ((repeat' refine And.intro ?_ ?_) <;> first | omega | rfl | trivial | exact Nat.le_refl _ | exact Nat.le_of_ble_eq_true rfl) | (simp only [Int.toNat_natCast] at *; (repeat' refine And.intro ?_ ?_) <;> first | omega | rfl | trivial | exact Nat.le_refl _ | exact Nat.le_of_ble_eq_true rfl))) ?_ | refine r_gval rfl rfl rfl rfl (by (first | omega | exact Nat.le_of_ble_eq_true rfl | ((repeat' refine And.intro ?_ ?_) <;> first | omega | rfl | trivial | exact Nat.le_refl _ | exact Nat.le_of_ble_eq_true rfl) | (simp only [Int.toNat_natCast] at *; (repeat' refine And.intro ?_ ?_) <;> first | omega | rfl | trivial | exact Nat.le_refl _ | exact Nat.le_of_ble_eq_true rfl))) ?_
        | refine r_obj rfl rfl (by (first | omega | exact Nat.le_of_ble_eq_true rfl | ((repeat' refine And.intro ?_ ?_) <;> first | omega | rfl | trivial | exact Nat.le_refl _ | exact Nat.le_of_ble_eq_true rfl) | (simp only [Int.toNat_natCast] at *; (repeat' refine And.intro ?_ ?_) <;> first | omega | rfl | trivial | exact Nat.le_refl _ | exact Nat.le_of_ble_eq_true rfl))) ?_ | refine r_sto rfl (by (first | omega | exact Nat.le_of_ble_eq_true rfl | ((repeat' refine And.intro ?_ ?_) <;> first | omega | rfl | trivial | exact Nat.le_refl _ | exact Nat.le_of_ble_eq_true rfl) | (simp only [Int.toNat_natCast] at *; (repeat' refine And.intro ?_ ?_) <;> first | omega | rfl | trivial | exact Nat.le_refl _ | exact Nat.le_of_ble_eq_true rfl))) ?_ | refine r_gobj rfl rfl rfl rfl (by (first | omega | exact Nat.le_of_ble_eq_true rfl | ((repeat' refine And.intro ?_ ?_) <;> first | omega | rfl | trivial | exact Nat.le_refl _ | exact Nat.le_of_ble_eq_true rfl) | (simp only [Int.toNat_natCast] at *; (repeat' refine And.intro ?_ ?_) <;> first | omega | rfl | trivial | exact Nat.le_refl _ | exact Nat.le_of_ble_eq_true rfl))) ?_
        | refine e_hit rfl ?_ | refine e_miss rfl ?_
        | refine ⟨by kernel_rfl, ?_⟩ | refine x_end rfl ?_ | refine r_call (f := 25) rfl rfl Tryd.call25 rfl cR ?_ | ((with_reducible refine c_grd ?_); (fail_if_success (refine c_lit true rfl rfl rfl ?_)); (fail_if_success (refine c_lit false rfl rfl rfl ?_)); refine c_split rfl rfl (fun _ => ?_) (fun _ => ?_)))
      refine T.loop hL (fun _ : Nat => [(3, .pv 3 0), (12, .i .i64 0), (13, .i .i64 0)]) (fun _ => [(3, .bld 91 .nilS)]) (fun _ => True) (fun _ => 0) 0
        trivial ⟨⟨rfl, rfl, rfl, trivial⟩, ⟨.inl rfl, trivial⟩, rfl, by rw [hX]; intro k hk; cases hk⟩ ?_
      intro i _
      repeat' (first
        | with_reducible refine t_seq ?_ | with_reducible refine t_region ?_ | with_reducible refine c_nil ?_ | with_reducible refine n_then ?_
        | with_reducible refine t_ret ?_ | with_reducible refine t_skip ?_ | with_reducible refine t_exit ?_ | with_reducible refine t_block ?_
        | with_reducible refine n_block ?_ | with_reducible refine e_then ?_ | with_reducible refine x_then ?_ | with_reducible refine x_block ?_ | with_reducible refine t_draw ?_
        | refine r_val rfl rfl True.intro ?_ | refine r_gskip rfl rfl rfl ?_ | refine r_gskip2 rfl rfl rfl ?_ | refine r_gval rfl rfl rfl rfl True.intro ?_
        | refine t_true rfl ?_ | refine t_false rfl ?_
        | ((first | refine t_cond_d rfl (fun _ => ?_) (fun _ => ?_) | refine t_cond_i rfl (fun _ => ?_) (fun _ => ?_) | refine t_cond_j rfl (fun _ => ?_) (fun _ => ?_) | refine t_cond_s rfl (fun _ => ?_) (fun _ => ?_) | refine t_cond_n rfl (fun _ => ?_) (fun _ => ?_) | refine t_cond rfl (fun _ => ?_) (fun _ => ?_) | refine c_split_d rfl rfl (fun _ => ?_) (fun _ => ?_) | refine c_split_i rfl rfl (fun _ => ?_) (fun _ => ?_) | refine c_split_j rfl rfl (fun _ => ?_) (fun _ => ?_) | refine c_split_s rfl rfl (fun _ => ?_) (fun _ => ?_) | refine c_split_n rfl rfl (fun _ => ?_) (fun _ => ?_)) <;> try (first | contradiction | (exfalso; omega)))
        | refine r_val rfl rfl (by (first | omega | exact Nat.le_of_ble_eq_true rfl | ((repeat' refine And.intro ?_ ?_) <;> first | omega | rfl | trivial | exact Nat.le_refl _ | exact Nat.le_of_ble_eq_true rfl) | (simp only [Int.toNat_natCast] at *; (repeat' refine And.intro ?_ ?_) <;> first | omega | rfl | trivial | exact Nat.le_refl _ | exact Nat.le_of_ble_eq_true rfl))) ?_ | refine r_gval rfl rfl rfl rfl (by (first | omega | exact Nat.le_of_ble_eq_true rfl | ((repeat' refine And.intro ?_ ?_) <;> first | omega | rfl | trivial | exact Nat.le_refl _ | exact Nat.le_of_ble_eq_true rfl) | (simp only [Int.toNat_natCast] at *; (repeat' refine And.intro ?_ ?_) <;> first | omega | rfl | trivial | exact Nat.le_refl _ | exact Nat.le_of_ble_eq_true rfl))) ?_
        | refine r_obj rfl rfl (by (first | omega | exact Nat.le_of_ble_eq_true rfl | ((repeat' refine And.intro ?_ ?_) <;> first | omega | rfl | trivial | exact Nat.le_refl _ | exact Nat.le_of_ble_eq_true rfl) | (simp only [Int.toNat_natCast] at *; (repeat' refine And.intro ?_ ?_) <;> first | omega | rfl | trivial | exact Nat.le_refl _ | exact Nat.le_of_ble_eq_true rfl))) ?_ | refine r_sto rfl (by (first | omega | exact Nat.le_of_ble_eq_true rfl | ((repeat' refine And.intro ?_ ?_) <;> first | omega | rfl | trivial | exact Nat.le_refl _ | exact Nat.le_of_ble_eq_true rfl) | (simp only [Int.toNat_natCast] at *; (repeat' refine And.intro ?_ ?_) <;> first | omega | rfl | trivial | exact Nat.le_refl _ | exact Nat.le_of_ble_eq_true rfl))) ?_ | refine r_gobj rfl rfl rfl rfl (by (first | omega | exact Nat.le_of_ble_eq_true rfl | ((repeat' refine And.intro ?_ ?_) <;> first | omega | rfl | trivial | exact Nat.le_refl _ | exact Nat.le_of_ble_eq_true rfl) | (simp only [Int.toNat_natCast] at *; (repeat' refine And.intro ?_ ?_) <;> first | omega | rfl | trivial | exact Nat.le_refl _ | exact Nat.le_of_ble_eq_true rfl))) ?_
        | refine e_hit rfl ?_ | refine e_miss rfl ?_
        | refine ⟨by kernel_rfl, ?_⟩ | refine x_end rfl ?_ | refine r_lend1 (f := 70) 3 rfl rfl Tryd.call70 rfl rfl rfl rfl rfl c0 ?_ | ((with_reducible refine c_grd ?_); (fail_if_success (refine c_lit true rfl rfl rfl ?_)); (fail_if_success (refine c_lit false rfl rfl rfl ?_)); refine c_split rfl rfl (fun _ => ?_) (fun _ => ?_)))
      all_goals rfl
    · refine r_fun Tryd.func24 rfl Tryd.ntmps24 Tryd.results24 rfl rfl fun X hL hX => ?_
      repeat' (first
        | refine r_bld rfl rfl rfl ?_
        | with_reducible refine t_seq ?_ | with_reducible refine t_region ?_ | with_reducible refine c_nil ?_ | with_reducible refine n_then ?_
        | with_reducible refine t_ret ?_ | with_reducible refine t_skip ?_ | with_reducible refine t_exit ?_ | with_reducible refine t_block ?_
        | with_reducible refine n_block ?_ | with_reducible refine e_then ?_ | with_reducible refine x_then ?_ | with_reducible refine x_block ?_ | with_reducible refine t_draw ?_
        | refine r_val rfl rfl True.intro ?_ | refine r_gskip rfl rfl rfl ?_ | refine r_gskip2 rfl rfl rfl ?_ | refine r_gval rfl rfl rfl rfl True.intro ?_
        | refine t_true rfl ?_ | refine t_false rfl ?_
        | ((first | refine t_cond_d rfl (fun _ => ?_) (fun _ => ?_) | refine t_cond_i rfl (fun _ => ?_) (fun _ => ?_) | refine t_cond_j rfl (fun _ => ?_) (fun _ => ?_) | refine t_cond_s rfl (fun _ => ?_) (fun _ => ?_) | refine t_cond_n rfl (fun _ => ?_) (fun _ => ?_) | refine t_cond rfl (fun _ => ?_) (fun _ => ?_) | refine c_split_d rfl rfl (fun _ => ?_) (fun _ => ?_) | refine c_split_i rfl rfl (fun _ => ?_) (fun _ => ?_) | refine c_split_j rfl rfl (fun _ => ?_) (fun _ => ?_) | refine c_split_s rfl rfl (fun _ => ?_) (fun _ => ?_) | refine c_split_n rfl rfl (fun _ => ?_) (fun _ => ?_)) <;> try (first | contradiction | (exfalso; omega)))
        | refine r_val rfl rfl (by (first | omega | exact Nat.le_of_ble_eq_true rfl | ((repeat' refine And.intro ?_ ?_) <;> first | omega | rfl | trivial | exact Nat.le_refl _ | exact Nat.le_of_ble_eq_true rfl) | (simp only [Int.toNat_natCast] at *; (repeat' refine And.intro ?_ ?_) <;> first | omega | rfl | trivial | exact Nat.le_refl _ | exact Nat.le_of_ble_eq_true rfl))) ?_ | refine r_gval rfl rfl rfl rfl (by (first | omega | exact Nat.le_of_ble_eq_true rfl | ((repeat' refine And.intro ?_ ?_) <;> first | omega | rfl | trivial | exact Nat.le_refl _ | exact Nat.le_of_ble_eq_true rfl) | (simp only [Int.toNat_natCast] at *; (repeat' refine And.intro ?_ ?_) <;> first | omega | rfl | trivial | exact Nat.le_refl _ | exact Nat.le_of_ble_eq_true rfl))) ?_
        | refine r_obj rfl rfl (by (first | omega | exact Nat.le_of_ble_eq_true rfl | ((repeat' refine And.intro ?_ ?_) <;> first | omega | rfl | trivial | exact Nat.le_refl _ | exact Nat.le_of_ble_eq_true rfl) | (simp only [Int.toNat_natCast] at *; (repeat' refine And.intro ?_ ?_) <;> first | omega | rfl | trivial | exact Nat.le_refl _ | exact Nat.le_of_ble_eq_true rfl))) ?_ | refine r_sto rfl (by (first | omega | exact Nat.le_of_ble_eq_true rfl | ((repeat' refine And.intro ?_ ?_) <;> first | omega | rfl | trivial | exact Nat.le_refl _ | exact Nat.le_of_ble_eq_true rfl) | (simp only [Int.toNat_natCast] at *; (repeat' refine And.intro ?_ ?_) <;> first | omega | rfl | trivial | exact Nat.le_refl _ | exact Nat.le_of_ble_eq_true rfl))) ?_ | refine r_gobj rfl rfl rfl rfl (by (first | omega | exact Nat.le_of_ble_eq_true rfl | ((repeat' refine And.intro ?_ ?_) <;> first | omega | rfl | trivial | exact Nat.le_refl _ | exact Nat.le_of_ble_eq_true rfl) | (simp only [Int.toNat_natCast] at *; (repeat' refine And.intro ?_ ?_) <;> first | omega | rfl | trivial | exact Nat.le_refl _ | exact Nat.le_of_ble_eq_true rfl))) ?_
        | refine e_hit rfl ?_ | refine e_miss rfl ?_
        | refine ⟨by kernel_rfl, ?_⟩ | refine x_end rfl ?_ | refine r_call (f := 25) rfl rfl Tryd.call25 rfl cR ?_ | ((with_reducible refine c_grd ?_); (fail_if_success (refine c_lit true rfl rfl rfl ?_)); (fail_if_success (refine c_lit false rfl rfl rfl ?_)); refine c_split rfl rfl (fun _ => ?_) (fun _ => ?_)))
      refine T.adoptB 3 200 5 91 (bytesF []) rfl rfl ?_
      refine T.loop hL (fun i : Nat => [(3, .pv 3 0), (11, .sl 1 rows.length (tabF rows)), (12, .i .i64 rows.length), (13, .i .i64 i)]) (fun i => bl (csvT (rows.take i))) (fun i => i ≤ rows.length) (fun i => rows.length - i) 0
        (Nat.zero_le _) ⟨⟨rfl, rfl, rfl, rfl, trivial⟩, ⟨.inl rfl, rfl, trivial⟩, rfl, by rw [hX]; intro k hk; cases hk⟩ ?_
      intro i g1
      by_cases hi : i < rows.length
      · have hl := (ha2 i).1
        repeat' (first
          | with_reducible refine t_seq ?_ | with_reducible refine t_region ?_ | with_reducible refine c_nil ?_ | with_reducible refine n_then ?_
          | with_reducible refine t_ret ?_ | with_reducible refine t_skip ?_ | with_reducible refine t_exit ?_ | with_reducible refine t_block ?_
          | with_reducible refine n_block ?_ | with_reducible refine e_then ?_ | with_reducible refine x_then ?_ | with_reducible refine x_block ?_ | with_reducible refine t_draw ?_
          | refine r_val rfl rfl True.intro ?_ | refine r_gskip rfl rfl rfl ?_ | refine r_gskip2 rfl rfl rfl ?_ | refine r_gval rfl rfl rfl rfl True.intro ?_
          | refine t_true rfl ?_ | refine t_false rfl ?_
          | ((first | refine t_cond_d rfl (fun _ => ?_) (fun _ => ?_) | refine t_cond_i rfl (fun _ => ?_) (fun _ => ?_) | refine t_cond_j rfl (fun _ => ?_) (fun _ => ?_) | refine t_cond_s rfl (fun _ => ?_) (fun _ => ?_) | refine t_cond_n rfl (fun _ => ?_) (fun _ => ?_) | refine t_cond rfl (fun _ => ?_) (fun _ => ?_) | refine c_split_d rfl rfl (fun _ => ?_) (fun _ => ?_) | refine c_split_i rfl rfl (fun _ => ?_) (fun _ => ?_) | refine c_split_j rfl rfl (fun _ => ?_) (fun _ => ?_) | refine c_split_s rfl rfl (fun _ => ?_) (fun _ => ?_) | refine c_split_n rfl rfl (fun _ => ?_) (fun _ => ?_)) <;> try (first | contradiction | (exfalso; omega)))
          | refine r_val rfl rfl (by (first | omega | exact Nat.le_of_ble_eq_true rfl | ((repeat' refine And.intro ?_ ?_) <;> first | omega | rfl | trivial | exact Nat.le_refl _ | exact Nat.le_of_ble_eq_true rfl) | (simp only [Int.toNat_natCast] at *; (repeat' refine And.intro ?_ ?_) <;> first | omega | rfl | trivial | exact Nat.le_refl _ | exact Nat.le_of_ble_eq_true rfl))) ?_ | refine r_gval rfl rfl rfl rfl (by (first | omega | exact Nat.le_of_ble_eq_true rfl | ((repeat' refine And.intro ?_ ?_) <;> first | omega | rfl | trivial | exact Nat.le_refl _ | exact Nat.le_of_ble_eq_true rfl) | (simp only [Int.toNat_natCast] at *; (repeat' refine And.intro ?_ ?_) <;> first | omega | rfl | trivial | exact Nat.le_refl _ | exact Nat.le_of_ble_eq_true rfl))) ?_
          | refine r_obj rfl rfl (by (first | omega | exact Nat.le_of_ble_eq_true rfl | ((repeat' refine And.intro ?_ ?_) <;> first | omega | rfl | trivial | exact Nat.le_refl _ | exact Nat.le_of_ble_eq_true rfl) | (simp only [Int.toNat_natCast] at *; (repeat' refine And.intro ?_ ?_) <;> first | omega | rfl | trivial | exact Nat.le_refl _ | exact Nat.le_of_ble_eq_true rfl))) ?_ | refine r_sto rfl (by (first | omega | exact Nat.le_of_ble_eq_true rfl | ((repeat' refine And.intro ?_ ?_) <;> first | omega | rfl | trivial | exact Nat.le_refl _ | exact Nat.le_of_ble_eq_true rfl) | (simp only [Int.toNat_natCast] at *; (repeat' refine And.intro ?_ ?_) <;> first | omega | rfl | trivial | exact Nat.le_refl _ | exact Nat.le_of_ble_eq_true rfl))) ?_ | refine r_gobj rfl rfl rfl rfl (by (first | omega | exact Nat.le_of_ble_eq_true rfl | ((repeat' refine And.intro ?_ ?_) <;> first | omega | rfl | trivial | exact Nat.le_refl _ | exact Nat.le_of_ble_eq_true rfl) | (simp only [Int.toNat_natCast] at *; (repeat' refine And.intro ?_ ?_) <;> first | omega | rfl | trivial | exact Nat.le_refl _ | exact Nat.le_of_ble_eq_true rfl))) ?_
          | refine e_hit rfl ?_ | refine e_miss rfl ?_
          | refine ⟨by kernel_rfl, ?_⟩ | refine x_end rfl ?_ | ((with_reducible refine c_grd ?_); (fail_if_success (refine c_lit true rfl rfl rfl ?_)); (fail_if_success (refine c_lit false rfl rfl rfl ?_)); refine c_split rfl rfl (fun _ => ?_) (fun _ => ?_)))
        refine T.loop hL (fun k : Nat => [(3, .pv 3 0), (11, .sl 1 rows.length (tabF rows)), (12, .i .i64 rows.length), (13, .i .i64 i), (17, .sl 1 (rows.getD i []).length (rowF (rows.getD i []))), (18, .i .i64 (rows.getD i []).length), (19, .i .i64 k)])
          (fun k => bl (csvT (rows.take i) ++ partR (rows.getD i []) k)) (fun k => k ≤ (rows.getD i []).length) (fun k => (rows.getD i []).length - k) 0
          (Nat.zero_le _) ⟨⟨rfl, rfl, rfl, rfl, rfl, rfl, rfl, trivial⟩, bl_le ⟨.inl rfl, rfl, trivial⟩ (by rw [partR_zero, List.append_nil]), rfl, by rw [hX]; intro k hk; cases hk⟩ ?_
        intro k g2
        have hb := csvT_part_le hi k
        have hf := (ha2 i).2 k
        by_cases hk : k < (rows.getD i []).length
        · by_cases h0 : k = 0
          · subst h0
            have cP := put_ctr (csvT (rows.take i) ++ partR (rows.getD i []) 0) ((rows.getD i []).getD 0 []) (by omega) hf
            have e : (csvT (rows.take i) ++ partR (rows.getD i []) 0) ++ encT ((rows.getD i []).getD 0 []) = csvT (rows.take i) ++ partR (rows.getD i []) (0 + 1) := by
              rw [partR_one hk, partR_zero, List.append_nil]
            repeat' (first
              | with_reducible refine t_seq ?_ | with_reducible refine t_region ?_ | with_reducible refine c_nil ?_ | with_reducible refine n_then ?_
              | with_reducible refine t_ret ?_ | with_reducible refine t_skip ?_ | with_reducible refine t_exit ?_ | with_reducible refine t_block ?_
              | with_reducible refine n_block ?_ | with_reducible refine e_then ?_ | with_reducible refine x_then ?_ | with_reducible refine x_block ?_ | with_reducible refine t_draw ?_
              | refine r_val rfl rfl True.intro ?_ | refine r_gskip rfl rfl rfl ?_ | refine r_gskip2 rfl rfl rfl ?_ | refine r_gval rfl rfl rfl rfl True.intro ?_
              | refine t_true rfl ?_ | refine t_false rfl ?_
              | ((first | refine t_cond_d rfl (fun _ => ?_) (fun _ => ?_) | refine t_cond_i rfl (fun _ => ?_) (fun _ => ?_) | refine t_cond_j rfl (fun _ => ?_) (fun _ => ?_) | refine t_cond_s rfl (fun _ => ?_) (fun _ => ?_) | refine t_cond_n rfl (fun _ => ?_) (fun _ => ?_) | refine t_cond rfl (fun _ => ?_) (fun _ => ?_) | refine c_split_d rfl rfl (fun _ => ?_) (fun _ => ?_) | refine c_split_i rfl rfl (fun _ => ?_) (fun _ => ?_) | refine c_split_j rfl rfl (fun _ => ?_) (fun _ => ?_) | refine c_split_s rfl rfl (fun _ => ?_) (fun _ => ?_) | refine c_split_n rfl rfl (fun _ => ?_) (fun _ => ?_)) <;> try (first | contradiction | (exfalso; omega)))
              | refine r_val rfl rfl (by (first | omega | exact Nat.le_of_ble_eq_true rfl | ((repeat' refine And.intro ?_ ?_) <;> first | omega | rfl | trivial | exact Nat.le_refl _ | exact Nat.le_of_ble_eq_true rfl) | (simp only [Int.toNat_natCast] at *; (repeat' refine And.intro ?_ ?_) <;> first | omega | rfl | trivial | exact Nat.le_refl _ | exact Nat.le_of_ble_eq_true rfl))) ?_ | refine r_gval rfl rfl rfl rfl (by (first | omega | exact Nat.le_of_ble_eq_true rfl | ((repeat' refine And.intro ?_ ?_) <;> first | omega | rfl | trivial | exact Nat.le_refl _ | exact Nat.le_of_ble_eq_true rfl) | (simp only [Int.toNat_natCast] at *; (repeat' refine And.intro ?_ ?_) <;> first | omega | rfl | trivial | exact Nat.le_refl _ | exact Nat.le_of_ble_eq_true rfl))) ?_
              | refine r_obj rfl rfl (by (first | omega | exact Nat.le_of_ble_eq_true rfl | ((repeat' refine And.intro ?_ ?_) <;> first | omega | rfl | trivial | exact Nat.le_refl _ | exact Nat.le_of_ble_eq_true rfl) | (simp only [Int.toNat_natCast] at *; (repeat' refine And.intro ?_ ?_) <;> first | omega | rfl | trivial | exact Nat.le_refl _ | exact Nat.le_of_ble_eq_true rfl))) ?_ | refine r_sto rfl (by (first | omega | exact Nat.le_of_ble_eq_true rfl | ((repeat' refine And.intro ?_ ?_) <;> first | omega | rfl | trivial | exact Nat.le_refl _ | exact Nat.le_of_ble_eq_true rfl) | (simp only [Int.toNat_natCast] at *; (repeat' refine And.intro ?_ ?_) <;> first | omega | rfl | trivial | exact Nat.le_refl _ | exact Nat.le_of_ble_eq_true rfl))) ?_ | refine r_gobj rfl rfl rfl rfl (by (first | omega | exact Nat.le_of_ble_eq_true rfl | ((repeat' refine And.intro ?_ ?_) <;> first | omega | rfl | trivial | exact Nat.le_refl _ | exact Nat.le_of_ble_eq_true rfl) | (simp only [Int.toNat_natCast] at *; (repeat' refine And.intro ?_ ?_) <;> first | omega | rfl | trivial | exact Nat.le_refl _ | exact Nat.le_of_ble_eq_true rfl))) ?_
              | refine e_hit rfl ?_ | refine e_miss rfl ?_
              | refine ⟨by kernel_rfl, ?_⟩ | refine x_end rfl ?_ | refine r_lend2 (f := 68) 3 200 rfl rfl Tryd.call68 rfl rfl rfl rfl rfl rfl rfl rfl rfl cP ?_ | ((with_reducible refine c_grd ?_); (fail_if_success (refine c_lit true rfl rfl rfl ?_)); (fail_if_success (refine c_lit false rfl rfl rfl ?_)); refine c_split rfl rfl (fun _ => ?_) (fun _ => ?_)))
            all_goals exact ⟨0 + 1, by omega, by omega, ⟨rfl, rfl, rfl, rfl, rfl, rfl, rfl, trivial⟩, bl_le ⟨.inl rfl, rfl, trivial⟩ e, rfl, by rw [hX]; intro k hk; cases hk⟩
          · have cB := writeB_ctr (csvT (rows.take i) ++ partR (rows.getD i []) k) 44 (by omega)
            have cP := put_ctr ((csvT (rows.take i) ++ partR (rows.getD i []) k) ++ [44]) ((rows.getD i []).getD k []) (by rw [List.length_append]; simp only [List.length_cons, List.length_nil]; omega) hf
            have e : ((csvT (rows.take i) ++ partR (rows.getD i []) k) ++ [44]) ++ encT ((rows.getD i []).getD k []) = csvT (rows.take i) ++ partR (rows.getD i []) (k + 1) := by
              rw [partR_more hk (by omega)]
              simp only [List.append_assoc]
            repeat' (first
              | with_reducible refine t_seq ?_ | with_reducible refine t_region ?_ | with_reducible refine c_nil ?_ | with_reducible refine n_then ?_
              | with_reducible refine t_ret ?_ | with_reducible refine t_skip ?_ | with_reducible refine t_exit ?_ | with_reducible refine t_block ?_
              | with_reducible refine n_block ?_ | with_reducible refine e_then ?_ | with_reducible refine x_then ?_ | with_reducible refine x_block ?_ | with_reducible refine t_draw ?_
              | refine r_val rfl rfl True.intro ?_ | refine r_gskip rfl rfl rfl ?_ | refine r_gskip2 rfl rfl rfl ?_ | refine r_gval rfl rfl rfl rfl True.intro ?_
              | refine t_true rfl ?_ | refine t_false rfl ?_
              | ((first | refine t_cond_d rfl (fun _ => ?_) (fun _ => ?_) | refine t_cond_i rfl (fun _ => ?_) (fun _ => ?_) | refine t_cond_j rfl (fun _ => ?_) (fun _ => ?_) | refine t_cond_s rfl (fun _ => ?_) (fun _ => ?_) | refine t_cond_n rfl (fun _ => ?_) (fun _ => ?_) | refine t_cond rfl (fun _ => ?_) (fun _ => ?_) | refine c_split_d rfl rfl (fun _ => ?_) (fun _ => ?_) | refine c_split_i rfl rfl (fun _ => ?_) (fun _ => ?_) | refine c_split_j rfl rfl (fun _ => ?_) (fun _ => ?_) | refine c_split_s rfl rfl (fun _ => ?_) (fun _ => ?_) | refine c_split_n rfl rfl (fun _ => ?_) (fun _ => ?_)) <;> try (first | contradiction | (exfalso; omega)))
              | refine r_val rfl rfl (by (first | omega | exact Nat.le_of_ble_eq_true rfl | ((repeat' refine And.intro ?_ ?_) <;> first | omega | rfl | trivial | exact Nat.le_refl _ | exact Nat.le_of_ble_eq_true rfl) | (simp only [Int.toNat_natCast] at *; (repeat' refine And.intro ?_ ?_) <;> first | omega | rfl | trivial | exact Nat.le_refl _ | exact Nat.le_of_ble_eq_true rfl))) ?_ | refine r_gval rfl rfl rfl rfl (by (first | omega | exact Nat.le_of_ble_eq_true rfl | ((repeat' refine And.intro ?_ ?_) <;> first | omega | rfl | trivial | exact Nat.le_refl _ | exact Nat.le_of_ble_eq_true rfl) | (simp only [Int.toNat_natCast] at *; (repeat' refine And.intro ?_ ?_) <;> first | omega | rfl | trivial | exact Nat.le_refl _ | exact Nat.le_of_ble_eq_true rfl))) ?_
              | refine r_obj rfl rfl (by (first | omega | exact Nat.le_of_ble_eq_true rfl | ((repeat' refine And.intro ?_ ?_) <;> first | omega | rfl | trivial | exact Nat.le_refl _ | exact Nat.le_of_ble_eq_true rfl) | (simp only [Int.toNat_natCast] at *; (repeat' refine And.intro ?_ ?_) <;> first | omega | rfl | trivial | exact Nat.le_refl _ | exact Nat.le_of_ble_eq_true rfl))) ?_ | refine r_sto rfl (by (first | omega | exact Nat.le_of_ble_eq_true rfl | ((repeat' refine And.intro ?_ ?_) <;> first | omega | rfl | trivial | exact Nat.le_refl _ | exact Nat.le_of_ble_eq_true rfl) | (simp only [Int.toNat_natCast] at *; (repeat' refine And.intro ?_ ?_) <;> first | omega | rfl | trivial | exact Nat.le_refl _ | exact Nat.le_of_ble_eq_true rfl))) ?_ | refine r_gobj rfl rfl rfl rfl (by (first | omega | exact Nat.le_of_ble_eq_true rfl | ((repeat' refine And.intro ?_ ?_) <;> first | omega | rfl | trivial | exact Nat.le_refl _ | exact Nat.le_of_ble_eq_true rfl) | (simp only [Int.toNat_natCast] at *; (repeat' refine And.intro ?_ ?_) <;> first | omega | rfl | trivial | exact Nat.le_refl _ | exact Nat.le_of_ble_eq_true rfl))) ?_
              | refine e_hit rfl ?_ | refine e_miss rfl ?_
              | refine ⟨by kernel_rfl, ?_⟩ | refine x_end rfl ?_ | refine r_lend2 (f := 68) 3 200 rfl rfl Tryd.call68 rfl rfl rfl rfl rfl rfl rfl rfl rfl cP ?_ | refine r_lend2 (f := 67) 3 200 rfl rfl Tryd.call67 rfl rfl rfl rfl rfl rfl rfl rfl rfl cB ?_ | ((with_reducible refine c_grd ?_); (fail_if_success (refine c_lit true rfl rfl rfl ?_)); (fail_if_success (refine c_lit false rfl rfl rfl ?_)); refine c_split rfl rfl (fun _ => ?_) (fun _ => ?_)))
            all_goals exact ⟨k + 1, by omega, by omega, ⟨rfl, rfl, rfl, rfl, rfl, rfl, rfl, trivial⟩, bl_le ⟨.inl rfl, rfl, trivial⟩ e, rfl, by rw [hX]; intro k hk; cases hk⟩
        · obtain rfl : k = (rows.getD i []).length := by omega
          have cW := write_ctr (csvT (rows.take i) ++ partR (rows.getD i []) (rows.getD i []).length) [13, 10] (by simp only [List.length_cons, List.length_nil]; omega)
          have e := csvT_take hi
          repeat' (first
            | with_reducible refine t_seq ?_ | with_reducible refine t_region ?_ | with_reducible refine c_nil ?_ | with_reducible refine n_then ?_
            | with_reducible refine t_ret ?_ | with_reducible refine t_skip ?_ | with_reducible refine t_exit ?_ | with_reducible refine t_block ?_
            | with_reducible refine n_block ?_ | with_reducible refine e_then ?_ | with_reducible refine x_then ?_ | with_reducible refine x_block ?_ | with_reducible refine t_draw ?_
            | refine r_val rfl rfl True.intro ?_ | refine r_gskip rfl rfl rfl ?_ | refine r_gskip2 rfl rfl rfl ?_ | refine r_gval rfl rfl rfl rfl True.intro ?_
            | refine t_true rfl ?_ | refine t_false rfl ?_
            | ((first | refine t_cond_d rfl (fun _ => ?_) (fun _ => ?_) | refine t_cond_i rfl (fun _ => ?_) (fun _ => ?_) | refine t_cond_j rfl (fun _ => ?_) (fun _ => ?_) | refine t_cond_s rfl (fun _ => ?_) (fun _ => ?_) | refine t_cond_n rfl (fun _ => ?_) (fun _ => ?_) | refine t_cond rfl (fun _ => ?_) (fun _ => ?_) | refine c_split_d rfl rfl (fun _ => ?_) (fun _ => ?_) | refine c_split_i rfl rfl (fun _ => ?_) (fun _ => ?_) | refine c_split_j rfl rfl (fun _ => ?_) (fun _ => ?_) | refine c_split_s rfl rfl (fun _ => ?_) (fun _ => ?_) | refine c_split_n rfl rfl (fun _ => ?_) (fun _ => ?_)) <;> try (first | contradiction | (exfalso; omega)))
            | refine r_val rfl rfl (by (first | omega | exact Nat.le_of_ble_eq_true rfl | ((repeat' refine And.intro ?_ ?_) <;> first | omega | rfl | trivial | exact Nat.le_refl _ | exact Nat.le_of_ble_eq_true rfl) | (simp only [Int.toNat_natCast] at *; (repeat' refine And.intro ?_ ?_) <;> first | omega | rfl | trivial | exact Nat.le_refl _ | exact Nat.le_of_ble_eq_true rfl))) ?_ | refine r_gval rfl rfl rfl rfl (by (first | omega | exact Nat.le_of_ble_eq_true rfl | ((repeat' refine And.intro ?_ ?_) <;> first | omega | rfl | trivial | exact Nat.le_refl _ | exact Nat.le_of_ble_eq_true rfl) | (simp only [Int.toNat_natCast] at *; (repeat' refine And.intro ?_ ?_) <;> first | omega | rfl | trivial | exact Nat.le_refl _ | exact Nat.le_of_ble_eq_true rfl))) ?_
            | refine r_obj rfl rfl (by (first | omega | exact Nat.le_of_ble_eq_true rfl | ((repeat' refine And.intro ?_ ?_) <;> first | omega | rfl | trivial | exact Nat.le_refl _ | exact Nat.le_of_ble_eq_true rfl) | (simp only [Int.toNat_natCast] at *; (repeat' refine And.intro ?_ ?_) <;> first | omega | rfl | trivial | exact Nat.le_refl _ | exact Nat.le_of_ble_eq_true rfl))) ?_ | refine r_sto rfl (by (first | omega | exact Nat.le_of_ble_eq_true rfl | ((repeat' refine And.intro ?_ ?_) <;> first | omega | rfl | trivial | exact Nat.le_refl _ | exact Nat.le_of_ble_eq_true rfl) | (simp only [Int.toNat_natCast] at *; (repeat' refine And.intro ?_ ?_) <;> first | omega | rfl | trivial | exact Nat.le_refl _ | exact Nat.le_of_ble_eq_true rfl))) ?_ | refine r_gobj rfl rfl rfl rfl (by (first | omega | exact Nat.le_of_ble_eq_true rfl | ((repeat' refine And.intro ?_ ?_) <;> first | omega | rfl | trivial | exact Nat.le_refl _ | exact Nat.le_of_ble_eq_true rfl) | (simp only [Int.toNat_natCast] at *; (repeat' refine And.intro ?_ ?_) <;> first | omega | rfl | trivial | exact Nat.le_refl _ | exact Nat.le_of_ble_eq_true rfl))) ?_
            | refine e_hit rfl ?_ | refine e_miss rfl ?_
            | refine ⟨by kernel_rfl, ?_⟩ | refine x_end rfl ?_ | refine r_lend2 (f := 69) 3 200 rfl rfl Tryd.call69 rfl rfl rfl rfl rfl rfl rfl rfl rfl cW ?_ | ((with_reducible refine c_grd ?_); (fail_if_success (refine c_lit true rfl rfl rfl ?_)); (fail_if_success (refine c_lit false rfl rfl rfl ?_)); refine c_split rfl rfl (fun _ => ?_) (fun _ => ?_)))
          all_goals exact ⟨i + 1, by omega, by omega, ⟨rfl, rfl, rfl, rfl, trivial⟩, bl_le ⟨.inl rfl, rfl, trivial⟩ e.symm, rfl, by rw [hX]; intro k hk; cases hk⟩
      · obtain rfl : i = rows.length := by omega
        have hpos : 0 < (csvT (rows.take rows.length)).length := by
          have := csvT_part_le (rows := rows) (i := 0) (by omega) 0
          rw [List.take_length]
          omega
        have cS := string_ctr (csvT (rows.take rows.length)) hpos (by have := csvT_take_le rows rows.length; omega)
        repeat' (first
          | with_reducible refine t_seq ?_ | with_reducible refine t_region ?_ | with_reducible refine c_nil ?_ | with_reducible refine n_then ?_
          | with_reducible refine t_ret ?_ | with_reducible refine t_skip ?_ | with_reducible refine t_exit ?_ | with_reducible refine t_block ?_
          | with_reducible refine n_block ?_ | with_reducible refine e_then ?_ | with_reducible refine x_then ?_ | with_reducible refine x_block ?_ | with_reducible refine t_draw ?_
          | refine r_val rfl rfl True.intro ?_ | refine r_gskip rfl rfl rfl ?_ | refine r_gskip2 rfl rfl rfl ?_ | refine r_gval rfl rfl rfl rfl True.intro ?_
          | refine t_true rfl ?_ | refine t_false rfl ?_
          | ((first | refine t_cond_d rfl (fun _ => ?_) (fun _ => ?_) | refine t_cond_i rfl (fun _ => ?_) (fun _ => ?_) | refine t_cond_j rfl (fun _ => ?_) (fun _ => ?_) | refine t_cond_s rfl (fun _ => ?_) (fun _ => ?_) | refine t_cond_n rfl (fun _ => ?_) (fun _ => ?_) | refine t_cond rfl (fun _ => ?_) (fun _ => ?_) | refine c_split_d rfl rfl (fun _ => ?_) (fun _ => ?_) | refine c_split_i rfl rfl (fun _ => ?_) (fun _ => ?_) | refine c_split_j rfl rfl (fun _ => ?_) (fun _ => ?_) | refine c_split_s rfl rfl (fun _ => ?_) (fun _ => ?_) | refine c_split_n rfl rfl (fun _ => ?_) (fun _ => ?_)) <;> try (first | contradiction | (exfalso; omega)))
          | refine r_val rfl rfl (by (first | omega | exact Nat.le_of_ble_eq_true rfl | ((repeat' refine And.intro ?_ ?_) <;> first | omega | rfl | trivial | exact Nat.le_refl _ | exact Nat.le_of_ble_eq_true rfl) | (simp only [Int.toNat_natCast] at *; (repeat' refine And.intro ?_ ?_) <;> first | omega | rfl | trivial | exact Nat.le_refl _ | exact Nat.le_of_ble_eq_true rfl))) ?_ | refine r_gval rfl rfl rfl rfl (by (first | omega | exact Nat.le_of_ble_eq_true rfl | ((repeat' refine And.intro ?_ ?_) <;> first | omega | rfl | trivial | exact Nat.le_refl _ | exact Nat.le_of_ble_eq_true rfl) | (simp only [Int.toNat_natCast] at *; (repeat' refine And.intro ?_ ?_) <;> first | omega | rfl | trivial | exact Nat.le_refl _ | exact Nat.le_of_ble_eq_true rfl))) ?_
          | refine r_obj rfl rfl (by (first | omega | exact Nat.le_of_ble_eq_true rfl | ((repeat' refine And.intro ?_ ?_) <;> first | omega | rfl | trivial | exact Nat.le_refl _ | exact Nat.le_of_ble_eq_true rfl) | (simp only [Int.toNat_natCast] at *; (repeat' refine And.intro ?_ ?_) <;> first | omega | rfl | trivial | exact Nat.le_refl _ | exact Nat.le_of_ble_eq_true rfl))) ?_ | refine r_sto rfl (by (first | omega | exact Nat.le_of_ble_eq_true rfl | ((repeat' refine And.intro ?_ ?_) <;> first | omega | rfl | trivial | exact Nat.le_refl _ | exact Nat.le_of_ble_eq_true rfl) | (simp only [Int.toNat_natCast] at *; (repeat' refine And.intro ?_ ?_) <;> first | omega | rfl | trivial | exact Nat.le_refl _ | exact Nat.le_of_ble_eq_true rfl))) ?_ | refine r_gobj rfl rfl rfl rfl (by (first | omega | exact Nat.le_of_ble_eq_true rfl | ((repeat' refine And.intro ?_ ?_) <;> first | omega | rfl | trivial | exact Nat.le_refl _ | exact Nat.le_of_ble_eq_true rfl) | (simp only [Int.toNat_natCast] at *; (repeat' refine And.intro ?_ ?_) <;> first | omega | rfl | trivial | exact Nat.le_refl _ | exact Nat.le_of_ble_eq_true rfl))) ?_
          | refine e_hit rfl ?_ | refine e_miss rfl ?_
          | refine ⟨by kernel_rfl, ?_⟩ | refine x_end rfl ?_ | refine r_lend2 (f := 70) 3 200 rfl rfl Tryd.call70 rfl rfl rfl rfl rfl rfl rfl rfl rfl cS ?_ | ((with_reducible refine c_grd ?_); (fail_if_success (refine c_lit true rfl rfl rfl ?_)); (fail_if_success (refine c_lit false rfl rfl rfl ?_)); refine c_split rfl rfl (fun _ => ?_) (fun _ => ?_)))
        all_goals rw [List.take_length]
  · rw [if_neg hr]
    rw [decide_eq_false hr] at cR
    refine r_fun Tryd.func24 rfl Tryd.ntmps24 Tryd.results24 rfl rfl fun X hL hX => ?_
    repeat' (first
      | refine r_bld rfl rfl rfl ?_
      | with_reducible refine t_seq ?_ | with_reducible refine t_region ?_ | with_reducible refine c_nil ?_ | with_reducible refine n_then ?_
      | with_reducible refine t_ret ?_ | with_reducible refine t_skip ?_ | with_reducible refine t_exit ?_ | with_reducible refine t_block ?_
      | with_reducible refine n_block ?_ | with_reducible refine e_then ?_ | with_reducible refine x_then ?_ | with_reducible refine x_block ?_ | with_reducible refine t_draw ?_
      | refine r_val rfl rfl True.intro ?_ | refine r_gskip rfl rfl rfl ?_ | refine r_gskip2 rfl rfl rfl ?_ | refine r_gval rfl rfl rfl rfl True.intro ?_
      | refine t_true rfl ?_ | refine t_false rfl ?_
      | ((first | refine t_cond_d rfl (fun _ => ?_) (fun _ => ?_) | refine t_cond_i rfl (fun _ => ?_) (fun _ => ?_) | refine t_cond_j rfl (fun _ => ?_) (fun _ => ?_) | refine t_cond_s rfl (fun _ => ?_) (fun _ => ?_) | refine t_cond_n rfl (fun _ => ?_) (fun _ => ?_) | refine t_cond rfl (fun _ => ?_) (fun _ => ?_) | refine c_split_d rfl rfl (fun _ => ?_) (fun _ => ?_) | refine c_split_i rfl rfl (fun _ => ?_) (fun _ => ?_) | refine c_split_j rfl rfl (fun _ => ?_) (fun _ => ?_) | refine c_split_s rfl rfl (fun _ => ?_) (fun _ => ?_) | refine c_split_n rfl rfl (fun _ => ?_) (fun _ => ?_)) <;> try (first | contradiction | (exfalso; omega)))
      | refine r_val rfl rfl (by (first | omega | exact Nat.le_of_ble_eq_true rfl | ((repeat' refine And.intro ?_ ?_) <;> first | omega | rfl | trivial | exact Nat.le_refl _ | exact Nat.le_of_ble_eq_true rfl) | (simp only [Int.toNat_natCast] at *; (repeat' refine And.intro ?_ ?_) <;> first | omega | rfl | trivial | exact Nat.le_refl _ | exact Nat.le_of_ble_eq_true rfl))) ?_ | refine r_gval rfl rfl rfl rfl (by (first | omega | exact Nat.le_of_ble_eq_true rfl | ((repeat' refine And.intro ?_ ?_) <;> first | omega | rfl | trivial | exact Nat.le_refl _ | exact Nat.le_of_ble_eq_true rfl) | (simp only [Int.toNat_natCast] at *; (repeat' refine And.intro ?_ ?_) <;> first | omega | rfl | trivial | exact Nat.le_refl _ | exact Nat.le_of_ble_eq_true rfl))) ?_
      | refine r_obj rfl rfl (by (first | omega | exact Nat.le_of_ble_eq_true rfl | ((repeat' refine And.intro ?_ ?_) <;> first | omega | rfl | trivial | exact Nat.le_refl _ | exact Nat.le_of_ble_eq_true rfl) | (simp only [Int.toNat_natCast] at *; (repeat' refine And.intro ?_ ?_) <;> first | omega | rfl | trivial | exact Nat.le_refl _ | exact Nat.le_of_ble_eq_true rfl))) ?_ | refine r_sto rfl (by (first | omega | exact Nat.le_of_ble_eq_true rfl | ((repeat' refine And.intro ?_ ?_) <;> first | omega | rfl | trivial | exact Nat.le_refl _ | exact Nat.le_of_ble_eq_true rfl) | (simp only [Int.toNat_natCast] at *; (repeat' refine And.intro ?_ ?_) <;> first | omega | rfl | trivial | exact Nat.le_refl _ | exact Nat.le_of_ble_eq_true rfl))) ?_ | refine r_gobj rfl rfl rfl rfl (by (first | omega | exact Nat.le_of_ble_eq_true rfl | ((repeat' refine And.intro ?_ ?_) <;> first | omega | rfl | trivial | exact Nat.le_refl _ | exact Nat.le_of_ble_eq_true rfl) | (simp only [Int.toNat_natCast] at *; (repeat' refine And.intro ?_ ?_) <;> first | omega | rfl | trivial | exact Nat.le_refl _ | exact Nat.le_of_ble_eq_true rfl))) ?_
      | refine e_hit rfl ?_ | refine e_miss rfl ?_
      | refine ⟨by kernel_rfl, ?_⟩ | refine x_end rfl ?_ | refine r_call (f := 25) rfl rfl Tryd.call25 rfl cR ?_ | ((with_reducible refine c_grd ?_); (fail_if_success (refine c_lit true rfl rfl rfl ?_)); (fail_if_success (refine c_lit false rfl rfl rfl ?_)); refine c_split rfl rfl (fun _ => ?_) (fun _ => ?_)))
    all_goals rfl

end Go.Proofs.YteidmimpkipcfaaDoor.Flow
