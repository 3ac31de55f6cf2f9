/- CSV: what is asked is small; CsvTexts' function. -/
import Derived.Test.YteidmimpkipcfaaDoorCC15
import Derived.Test.YteidmimpkipcfaaDoorCC21
namespace Go.Proofs.YteidmimpkipcfaaDoor.Flow
open Go

theorem sum_drop {α : Type} (g : α → Nat) (d : α) {l : List α} {k : Nat} (h : k < l.length) : ((l.drop k).map g).sum = g (l.getD k d) + ((l.drop (k + 1)).map g).sum := by
  have e : l.drop k = l[k] :: l.drop (k + 1) := List.drop_eq_getElem_cons h
  rw [e, List.map_cons, List.sum_cons]
  simp [List.getD_eq_getElem?_getD, h]

theorem muchRow_sum (l : List (List UInt8)) (hl : l.length ≤ 60) : ∀ (d k : Nat) (n : Int), l.length - k = d → muchRow l k n = n + (((l.drop k).map fun f => f.length + 1).sum : Nat)
  | 0, k, n, h => by
    rw [muchRow_end (fun h2 => by omega), List.drop_eq_nil_of_le (by omega)]
    simp
  | d + 1, k, n, h => by
    have hk : k < l.length := by omega
    rw [muchRow_more hk (by omega), muchRow_sum l hl d (k + 1) _ (by omega), sum_drop (fun f : List UInt8 => f.length + 1) [] hk]
    omega

theorem much_small (a : List (List (List UInt8))) : ∀ (d i : Nat) (n : Int), a.length - i = d → n ≤ 1000 → muchTab a i n = false → a.length ≤ 50 ∧ n + (((a.drop i).map rowW).sum : Nat) ≤ 1000
  | 0, i, n, h, hn, hm => by
    rw [muchTab_end (fun h2 => by omega)] at hm
    have := of_decide_eq_false hm
    rw [List.drop_eq_nil_of_le (by omega)]
    exact ⟨by omega, by simpa using hn⟩
  | d + 1, i, n, h, hn, hm => by
    have hi : i < a.length := by omega
    by_cases h60 : i < 60
    · by_cases hb : muchRow (a.getD i []) 0 n > 1000 ∨ (a.getD i []).length > 50
      · rw [muchTab_true hi h60 hb] at hm
        cases hm
      · rw [muchTab_more hi h60 hb] at hm
        have hs := muchRow_sum (a.getD i []) (by omega) _ 0 n rfl
        have ih := much_small a d (i + 1) _ (by omega) (by omega) hm
        rw [sum_drop rowW [] hi]
        have e : rowW (a.getD i []) = ((((a.getD i []).drop 0).map fun f => f.length + 1).sum : Nat) := rfl
        rw [← e] at hs
        exact ⟨ih.1, by omega⟩
    · rw [muchTab_end (fun _ => h60)] at hm
      have := of_decide_eq_false hm
      omega

theorem tabW_sum : ∀ t : List (List (List UInt8)), tabW t = (t.map rowW).sum + t.length
  | [] => rfl
  | r :: t => by
    have := tabW_sum t
    simp only [tabW, List.map_cons, List.sum_cons, List.length_cons] at *
    omega

theorem rowW_enc : ∀ r : List (List UInt8), rowW (encR r) ≤ 3 * rowW r
  | [] => Nat.zero_le _
  | f :: r => by
    have h1 := rowW_enc r
    have h2 := encT_len f
    simp only [rowW, encR, List.map_cons, List.sum_cons] at *
    omega

theorem rowText_le (r : List (List UInt8)) : (rowText r).length ≤ rowW r := by
  cases r with
  | nil => exact Nat.zero_le _
  | cons f r =>
    have := rowText_len (r := f :: r) (by simp)
    omega

theorem csvT_len : ∀ t : List (List (List UInt8)), (csvT t).length ≤ 3 * tabW t
  | [] => Nat.zero_le _
  | r :: t => by
    have h1 := csvT_len t
    have h2 := rowText_le (encR r)
    have h3 := rowW_enc r
    rw [csvT_cons]
    simp only [List.length_append, List.length_cons, List.length_nil, tabW, List.map_cons, List.sum_cons] at *
    omega

theorem csvT_small {a : List (List (List UInt8))} (h : muchTab a 0 0 = false) : (csvT a).length ≤ 4000 := by
  have h1 := much_small a _ 0 0 rfl (by omega) h
  have h2 := csvT_len a
  rw [tabW_sum] at h2
  rw [List.drop_zero] at h1
  omega

set_option maxHeartbeats 4000000 in
theorem texts_ctr (rows : List (List (List UInt8))) (ha : smallTab rows) : Ctr Tryd.prog 6 [.sl 1 rows.length (tabF rows)] (.b true) := by
  have hl := live_ctr
  have c1 := rmuch_ctr rows ha
  cases hm : muchTab rows 0 0 with
  | true =>
    rw [hm] at c1
    refine r_fun Tryd.func6 rfl Tryd.ntmps6 Tryd.results6 rfl rfl fun X hL hX => ?_
    repeat' (first
      | with_reducible refine t_seq ?_ | with_reducible refine t_region ?_ | with_reducible refine c_nil ?_ | with_reducible refine n_then ?_
      | with_reducible refine t_ret ?_ | with_reducible refine t_skip ?_ | with_reducible refine t_exit ?_ | with_reducible refine t_block ?_
      | with_reducible refine n_block ?_ | with_reducible refine e_then ?_ | with_reducible refine x_then ?_ | with_reducible refine x_block ?_ | with_reducible refine t_draw ?_
      | refine r_val rfl rfl True.intro ?_ | refine r_gskip rfl rfl rfl ?_ | refine r_gskip2 rfl rfl rfl ?_ | refine r_gval rfl rfl rfl rfl True.intro ?_
      | refine t_true rfl ?_ | refine t_false rfl ?_
      | ((first | refine t_cond_d rfl (fun _ => ?_) (fun _ => ?_) | refine t_cond_i rfl (fun _ => ?_) (fun _ => ?_) | refine t_cond_j rfl (fun _ => ?_) (fun _ => ?_) | refine t_cond_s rfl (fun _ => ?_) (fun _ => ?_) | refine t_cond_n rfl (fun _ => ?_) (fun _ => ?_) | refine t_cond rfl (fun _ => ?_) (fun _ => ?_) | refine c_split_d rfl rfl (fun _ => ?_) (fun _ => ?_) | refine c_split_i rfl rfl (fun _ => ?_) (fun _ => ?_) | refine c_split_j rfl rfl (fun _ => ?_) (fun _ => ?_) | refine c_split_s rfl rfl (fun _ => ?_) (fun _ => ?_) | refine c_split_n rfl rfl (fun _ => ?_) (fun _ => ?_)) <;> try (first | contradiction | (exfalso; omega)))
      | refine r_val rfl rfl (by (first | omega | exact Nat.le_of_ble_eq_true rfl | ((repeat' refine And.intro ?_ ?_) <;> first | omega | rfl | trivial | exact Nat.le_refl _ | exact Nat.le_of_ble_eq_true rfl) | (simp only [Int.toNat_natCast] at *; (repeat' refine And.intro ?_ ?_) <;> first | omega | rfl | trivial | exact Nat.le_refl _ | exact Nat.le_of_ble_eq_true rfl))) ?_ | refine r_gval rfl rfl rfl rfl (by (first | omega | exact Nat.le_of_ble_eq_true rfl | ((repeat' refine And.intro ?_ ?_) <;> first | omega | rfl | trivial | exact Nat.le_refl _ | exact Nat.le_of_ble_eq_true rfl) | (simp only [Int.toNat_natCast] at *; (repeat' refine And.intro ?_ ?_) <;> first | omega | rfl | trivial | exact Nat.le_refl _ | exact Nat.le_of_ble_eq_true rfl))) ?_
      | refine r_obj rfl rfl (by (first | omega | exact Nat.le_of_ble_eq_true rfl | ((repeat' refine And.intro ?_ ?_) <;> first | omega | rfl | trivial | exact Nat.le_refl _ | exact Nat.le_of_ble_eq_true rfl) | (simp only [Int.toNat_natCast] at *; (repeat' refine And.intro ?_ ?_) <;> first | omega | rfl | trivial | exact Nat.le_refl _ | exact Nat.le_of_ble_eq_true rfl))) ?_ | refine r_sto rfl (by (first | omega | exact Nat.le_of_ble_eq_true rfl | ((repeat' refine And.intro ?_ ?_) <;> first | omega | rfl | trivial | exact Nat.le_refl _ | exact Nat.le_of_ble_eq_true rfl) | (simp only [Int.toNat_natCast] at *; (repeat' refine And.intro ?_ ?_) <;> first | omega | rfl | trivial | exact Nat.le_refl _ | exact Nat.le_of_ble_eq_true rfl))) ?_ | refine r_gobj rfl rfl rfl rfl (by (first | omega | exact Nat.le_of_ble_eq_true rfl | ((repeat' refine And.intro ?_ ?_) <;> first | omega | rfl | trivial | exact Nat.le_refl _ | exact Nat.le_of_ble_eq_true rfl) | (simp only [Int.toNat_natCast] at *; (repeat' refine And.intro ?_ ?_) <;> first | omega | rfl | trivial | exact Nat.le_refl _ | exact Nat.le_of_ble_eq_true rfl))) ?_
      | refine e_hit rfl ?_ | refine e_miss rfl ?_
      | refine ⟨by kernel_rfl, ?_⟩ | refine x_end rfl ?_ | refine r_call (f := 22) rfl rfl Tryd.call22 rfl c1 ?_ | refine r_call (f := 23) rfl rfl Tryd.call23 rfl hl ?_ | ((with_reducible refine c_grd ?_); (fail_if_success (refine c_lit true rfl rfl rfl ?_)); (fail_if_success (refine c_lit false rfl rfl rfl ?_)); refine c_split rfl rfl (fun _ => ?_) (fun _ => ?_)))
    all_goals rfl
  | false =>
    rw [hm] at c1
    have hT := csvT_small hm
    have c2 := text_ctr rows ha (by omega)
    have c3 := rtext_ctr rows ha (by omega)
    have c4 := cright_ctr rows ha
    have c5 := rright_ctr rows ha
    have c6 := parse_ctr (csvT rows) (by omega)
    have c7 := code_ctr 0
    obtain ⟨ha1, ha2⟩ := ha
    have c8 := rsame_ctr rows rows (by omega) (by omega) (fun i => by have := (ha2 i).1; omega)
    rw [decide_eq_true rfl] at c8
    clear hm ha2
    by_cases hr : rightTab rows
    · rw [if_pos hr] at c2 c3
      rw [decide_eq_true hr] at c4 c5
      rw [parseG_enc rows hr (by omega)] at c6
      have c6 : Ctr Tryd.prog 28 [.s (csvT rows)] (.tu [.sl 1 rows.length (tabF rows), .i .i64 (csvT rows).length, .i .i64 0]) := c6
      clear hr
      generalize csvT rows = T at *
      refine r_fun Tryd.func6 rfl Tryd.ntmps6 Tryd.results6 rfl rfl fun X hL hX => ?_
      repeat' (first
        | with_reducible refine t_seq ?_ | with_reducible refine t_region ?_ | with_reducible refine c_nil ?_ | with_reducible refine n_then ?_
        | with_reducible refine t_ret ?_ | with_reducible refine t_skip ?_ | with_reducible refine t_exit ?_ | with_reducible refine t_block ?_
        | with_reducible refine n_block ?_ | with_reducible refine e_then ?_ | with_reducible refine x_then ?_ | with_reducible refine x_block ?_ | with_reducible refine t_draw ?_
        | refine r_val rfl rfl True.intro ?_ | refine r_gskip rfl rfl rfl ?_ | refine r_gskip2 rfl rfl rfl ?_ | refine r_gval rfl rfl rfl rfl True.intro ?_
        | refine t_true rfl ?_ | refine t_false rfl ?_
        | ((first | refine t_cond_d rfl (fun _ => ?_) (fun _ => ?_) | refine t_cond_i rfl (fun _ => ?_) (fun _ => ?_) | refine t_cond_j rfl (fun _ => ?_) (fun _ => ?_) | refine t_cond_s rfl (fun _ => ?_) (fun _ => ?_) | refine t_cond_n rfl (fun _ => ?_) (fun _ => ?_) | refine t_cond rfl (fun _ => ?_) (fun _ => ?_) | refine c_split_d rfl rfl (fun _ => ?_) (fun _ => ?_) | refine c_split_i rfl rfl (fun _ => ?_) (fun _ => ?_) | refine c_split_j rfl rfl (fun _ => ?_) (fun _ => ?_) | refine c_split_s rfl rfl (fun _ => ?_) (fun _ => ?_) | refine c_split_n rfl rfl (fun _ => ?_) (fun _ => ?_)) <;> try (first | contradiction | (exfalso; omega)))
        | refine r_val rfl rfl (by (first | omega | exact Nat.le_of_ble_eq_true rfl | ((repeat' refine And.intro ?_ ?_) <;> first | omega | rfl | trivial | exact Nat.le_refl _ | exact Nat.le_of_ble_eq_true rfl) | (simp only [Int.toNat_natCast] at *; (repeat' refine And.intro ?_ ?_) <;> first | omega | rfl | trivial | exact Nat.le_refl _ | exact Nat.le_of_ble_eq_true rfl))) ?_ | refine r_gval rfl rfl rfl rfl (by (first | omega | exact Nat.le_of_ble_eq_true rfl | ((repeat' refine And.intro ?_ ?_) <;> first | omega | rfl | trivial | exact Nat.le_refl _ | exact Nat.le_of_ble_eq_true rfl) | (simp only [Int.toNat_natCast] at *; (repeat' refine And.intro ?_ ?_) <;> first | omega | rfl | trivial | exact Nat.le_refl _ | exact Nat.le_of_ble_eq_true rfl))) ?_
        | refine r_obj rfl rfl (by (first | omega | exact Nat.le_of_ble_eq_true rfl | ((repeat' refine And.intro ?_ ?_) <;> first | omega | rfl | trivial | exact Nat.le_refl _ | exact Nat.le_of_ble_eq_true rfl) | (simp only [Int.toNat_natCast] at *; (repeat' refine And.intro ?_ ?_) <;> first | omega | rfl | trivial | exact Nat.le_refl _ | exact Nat.le_of_ble_eq_true rfl))) ?_ | refine r_sto rfl (by (first | omega | exact Nat.le_of_ble_eq_true rfl | ((repeat' refine And.intro ?_ ?_) <;> first | omega | rfl | trivial | exact Nat.le_refl _ | exact Nat.le_of_ble_eq_true rfl) | (simp only [Int.toNat_natCast] at *; (repeat' refine And.intro ?_ ?_) <;> first | omega | rfl | trivial | exact Nat.le_refl _ | exact Nat.le_of_ble_eq_true rfl))) ?_ | refine r_gobj rfl rfl rfl rfl (by (first | omega | exact Nat.le_of_ble_eq_true rfl | ((repeat' refine And.intro ?_ ?_) <;> first | omega | rfl | trivial | exact Nat.le_refl _ | exact Nat.le_of_ble_eq_true rfl) | (simp only [Int.toNat_natCast] at *; (repeat' refine And.intro ?_ ?_) <;> first | omega | rfl | trivial | exact Nat.le_refl _ | exact Nat.le_of_ble_eq_true rfl))) ?_
        | refine e_hit rfl ?_ | refine e_miss rfl ?_
        | refine ⟨by kernel_rfl, ?_⟩ | refine x_end rfl ?_ | refine r_call (f := 22) rfl rfl Tryd.call22 rfl c1 ?_ | refine r_call (f := 24) rfl rfl Tryd.call24 rfl c2 ?_ | refine r_call (f := 25) rfl rfl Tryd.call25 rfl c4 ?_ | refine r_call (f := 26) rfl rfl Tryd.call26 rfl c5 ?_ | refine r_gcall (f := 27) rfl rfl rfl rfl Tryd.call27 rfl c3 ?_ | refine r_call (f := 28) rfl rfl Tryd.call28 rfl c6 ?_ | refine r_call (f := 29) rfl rfl Tryd.call29 rfl c7 ?_ | refine r_gcall (f := 30) rfl rfl rfl rfl Tryd.call30 rfl c8 ?_ | refine r_gcall (f := 23) rfl rfl rfl rfl Tryd.call23 rfl hl ?_ | ((with_reducible refine c_grd ?_); (fail_if_success (refine c_lit true rfl rfl rfl ?_)); (fail_if_success (refine c_lit false rfl rfl rfl ?_)); refine c_split rfl rfl (fun _ => ?_) (fun _ => ?_)))
      all_goals first | rfl | (exfalso; simp_all; done)
    · rw [if_neg hr] at c2 c3
      rw [decide_eq_false hr] at c4 c5
      refine r_fun Tryd.func6 rfl Tryd.ntmps6 Tryd.results6 rfl rfl fun X hL hX => ?_
      repeat' (first
        | with_reducible refine t_seq ?_ | with_reducible refine t_region ?_ | with_reducible refine c_nil ?_ | with_reducible refine n_then ?_
        | with_reducible refine t_ret ?_ | with_reducible refine t_skip ?_ | with_reducible refine t_exit ?_ | with_reducible refine t_block ?_
        | with_reducible refine n_block ?_ | with_reducible refine e_then ?_ | with_reducible refine x_then ?_ | with_reducible refine x_block ?_ | with_reducible refine t_draw ?_
        | refine r_val rfl rfl True.intro ?_ | refine r_gskip rfl rfl rfl ?_ | refine r_gskip2 rfl rfl rfl ?_ | refine r_gval rfl rfl rfl rfl True.intro ?_
        | refine t_true rfl ?_ | refine t_false rfl ?_
        | ((first | refine t_cond_d rfl (fun _ => ?_) (fun _ => ?_) | refine t_cond_i rfl (fun _ => ?_) (fun _ => ?_) | refine t_cond_j rfl (fun _ => ?_) (fun _ => ?_) | refine t_cond_s rfl (fun _ => ?_) (fun _ => ?_) | refine t_cond_n rfl (fun _ => ?_) (fun _ => ?_) | refine t_cond rfl (fun _ => ?_) (fun _ => ?_) | refine c_split_d rfl rfl (fun _ => ?_) (fun _ => ?_) | refine c_split_i rfl rfl (fun _ => ?_) (fun _ => ?_) | refine c_split_j rfl rfl (fun _ => ?_) (fun _ => ?_) | refine c_split_s rfl rfl (fun _ => ?_) (fun _ => ?_) | refine c_split_n rfl rfl (fun _ => ?_) (fun _ => ?_)) <;> try (first | contradiction | (exfalso; omega)))
        | refine r_val rfl rfl (by (first | omega | exact Nat.le_of_ble_eq_true rfl | ((repeat' refine And.intro ?_ ?_) <;> first | omega | rfl | trivial | exact Nat.le_refl _ | exact Nat.le_of_ble_eq_true rfl) | (simp only [Int.toNat_natCast] at *; (repeat' refine And.intro ?_ ?_) <;> first | omega | rfl | trivial | exact Nat.le_refl _ | exact Nat.le_of_ble_eq_true rfl))) ?_ | refine r_gval rfl rfl rfl rfl (by (first | omega | exact Nat.le_of_ble_eq_true rfl | ((repeat' refine And.intro ?_ ?_) <;> first | omega | rfl | trivial | exact Nat.le_refl _ | exact Nat.le_of_ble_eq_true rfl) | (simp only [Int.toNat_natCast] at *; (repeat' refine And.intro ?_ ?_) <;> first | omega | rfl | trivial | exact Nat.le_refl _ | exact Nat.le_of_ble_eq_true rfl))) ?_
        | refine r_obj rfl rfl (by (first | omega | exact Nat.le_of_ble_eq_true rfl | ((repeat' refine And.intro ?_ ?_) <;> first | omega | rfl | trivial | exact Nat.le_refl _ | exact Nat.le_of_ble_eq_true rfl) | (simp only [Int.toNat_natCast] at *; (repeat' refine And.intro ?_ ?_) <;> first | omega | rfl | trivial | exact Nat.le_refl _ | exact Nat.le_of_ble_eq_true rfl))) ?_ | refine r_sto rfl (by (first | omega | exact Nat.le_of_ble_eq_true rfl | ((repeat' refine And.intro ?_ ?_) <;> first | omega | rfl | trivial | exact Nat.le_refl _ | exact Nat.le_of_ble_eq_true rfl) | (simp only [Int.toNat_natCast] at *; (repeat' refine And.intro ?_ ?_) <;> first | omega | rfl | trivial | exact Nat.le_refl _ | exact Nat.le_of_ble_eq_true rfl))) ?_ | refine r_gobj rfl rfl rfl rfl (by (first | omega | exact Nat.le_of_ble_eq_true rfl | ((repeat' refine And.intro ?_ ?_) <;> first | omega | rfl | trivial | exact Nat.le_refl _ | exact Nat.le_of_ble_eq_true rfl) | (simp only [Int.toNat_natCast] at *; (repeat' refine And.intro ?_ ?_) <;> first | omega | rfl | trivial | exact Nat.le_refl _ | exact Nat.le_of_ble_eq_true rfl))) ?_
        | refine e_hit rfl ?_ | refine e_miss rfl ?_
        | refine ⟨by kernel_rfl, ?_⟩ | refine x_end rfl ?_ | refine r_call (f := 22) rfl rfl Tryd.call22 rfl c1 ?_ | refine r_call (f := 24) rfl rfl Tryd.call24 rfl c2 ?_ | refine r_call (f := 25) rfl rfl Tryd.call25 rfl c4 ?_ | refine r_call (f := 26) rfl rfl Tryd.call26 rfl c5 ?_ | refine r_gcall (f := 27) rfl rfl rfl rfl Tryd.call27 rfl c3 ?_ | refine r_call (f := 23) rfl rfl Tryd.call23 rfl hl ?_ | ((with_reducible refine c_grd ?_); (fail_if_success (refine c_lit true rfl rfl rfl ?_)); (fail_if_success (refine c_lit false rfl rfl rfl ?_)); refine c_split rfl rfl (fun _ => ?_) (fun _ => ?_)))
      all_goals first | rfl | (exfalso; simp_all; done)

end Go.Proofs.YteidmimpkipcfaaDoor.Flow
