/- The texts L13, L14, one behind the other. -/
import Derived.Test.YtghhohckonbkkaaP6
/- LRU: the document's New, Get and Put. -/
namespace Go.Proofs.Ytghhohckonbkkaa.Flow
open Go

theorem wk_nilr : Weak .nilS (rowE []) := .nil 2 _

theorem rnew_ctr (E M : Int) : Ctr Try.prog 13 [.i .i64 E, .i .i64 M] (.ag (refC (rowE []) (max E 0) (max M 0) 0 0)) := by
  refine r_fun Try.func13 rfl Try.ntmps13 Try.results13 rfl rfl fun X hL hX => ?_
  repeat' (first
    | with_reducible refine t_seq ?_ | with_reducible refine t_region ?_ | with_reducible refine c_nil ?_ | with_reducible refine n_then ?_
    | with_reducible refine t_ret ?_ | with_reducible refine t_skip ?_ | with_reducible refine t_exit ?_ | with_reducible refine t_block ?_
    | with_reducible refine n_block ?_ | with_reducible refine e_then ?_ | with_reducible refine x_then ?_ | with_reducible refine x_block ?_ | with_reducible refine t_draw ?_
    | refine r_val rfl rfl True.intro ?_ | refine r_gskip rfl rfl rfl ?_ | refine r_gskip2 rfl rfl rfl ?_ | refine r_gval rfl rfl rfl rfl True.intro ?_
    | refine t_true rfl ?_ | refine t_false rfl ?_
    | ((first | refine t_cond_d rfl (fun _ => ?_) (fun _ => ?_) | refine t_cond_i rfl (fun _ => ?_) (fun _ => ?_) | refine t_cond_j rfl (fun _ => ?_) (fun _ => ?_) | refine t_cond_s rfl (fun _ => ?_) (fun _ => ?_) | refine t_cond_n rfl (fun _ => ?_) (fun _ => ?_) | refine t_cond rfl (fun _ => ?_) (fun _ => ?_) | refine c_split_d rfl rfl (fun _ => ?_) (fun _ => ?_) | refine c_split_i rfl rfl (fun _ => ?_) (fun _ => ?_) | refine c_split_j rfl rfl (fun _ => ?_) (fun _ => ?_) | refine c_split_s rfl rfl (fun _ => ?_) (fun _ => ?_) | refine c_split_n rfl rfl (fun _ => ?_) (fun _ => ?_)) <;> try (first | contradiction | (exfalso; omega)))
    | refine r_val rfl rfl (by (first | omega | exact Nat.le_of_ble_eq_true rfl | (simp_all; done) | (simp_all; omega) | ((repeat' refine And.intro ?_ ?_) <;> first | omega | rfl | exact Nat.le_refl _ | exact Nat.le_of_ble_eq_true rfl | exact bytesF_one _ | (simp_all; done) | (simp_all; omega)))) ?_ | refine r_gval rfl rfl rfl rfl (by (first | omega | exact Nat.le_of_ble_eq_true rfl | (simp_all; done) | (simp_all; omega) | ((repeat' refine And.intro ?_ ?_) <;> first | omega | rfl | exact Nat.le_refl _ | exact Nat.le_of_ble_eq_true rfl | exact bytesF_one _ | (simp_all; done) | (simp_all; omega)))) ?_
    | refine r_obj rfl rfl (by (first | omega | exact Nat.le_of_ble_eq_true rfl | (simp_all; done) | (simp_all; omega) | ((repeat' refine And.intro ?_ ?_) <;> first | omega | rfl | exact Nat.le_refl _ | exact Nat.le_of_ble_eq_true rfl | exact bytesF_one _ | (simp_all; done) | (simp_all; omega)))) ?_ | refine r_sto rfl (by (first | omega | exact Nat.le_of_ble_eq_true rfl | (simp_all; done) | (simp_all; omega) | ((repeat' refine And.intro ?_ ?_) <;> first | omega | rfl | exact Nat.le_refl _ | exact Nat.le_of_ble_eq_true rfl | exact bytesF_one _ | (simp_all; done) | (simp_all; omega)))) ?_ | refine r_gobj rfl rfl rfl rfl (by (first | omega | exact Nat.le_of_ble_eq_true rfl | (simp_all; done) | (simp_all; omega) | ((repeat' refine And.intro ?_ ?_) <;> first | omega | rfl | exact Nat.le_refl _ | exact Nat.le_of_ble_eq_true rfl | exact bytesF_one _ | (simp_all; done) | (simp_all; omega)))) ?_
    | refine e_hit rfl ?_ | refine e_miss rfl ?_
    | refine ⟨by kernel_rfl, ?_⟩ | refine x_endw rfl (wk_cache wk_nilr (by omega) (by omega) rfl rfl) | refine n_endw rfl (wk_cache wk_nilr (by omega) (by omega) rfl rfl) | ((with_reducible refine c_grd ?_); (fail_if_success (refine c_lit true rfl rfl rfl ?_)); (fail_if_success (refine c_lit false rfl rfl rfl ?_)); refine c_split rfl rfl (fun _ => ?_) (fun _ => ?_)))

theorem getL_hit {k : List UInt8} : ∀ {l : List Ent} {i : Nat}, i < l.length → (l.getD i dE).1 = k → (∀ j, j < i → (l.getD j dE).1 ≠ k) → getL l k = some (l.getD i dE).2
  | [], i, h, _, _ => by simp at h
  | p :: r, 0, _, h, _ => by
    have h : p.1 = k := h
    unfold getL
    rw [List.find?_cons, show (p.1 == k) = true by simp [h]]
    rfl
  | p :: r, i + 1, hi, h, hn => by
    have h0 : p.1 ≠ k := hn 0 (by omega)
    have := getL_hit (l := r) (i := i) (by simpa using hi) (by simpa using h) (fun j hj => by simpa using hn (j + 1) (by omega))
    unfold getL at this ⊢
    rw [List.find?_cons, show (p.1 == k) = false by simp [h0]]
    simpa using this

theorem getL_miss {k : List UInt8} {l : List Ent} (h : ∀ j, j < l.length → (l.getD j dE).1 ≠ k) : getL l k = none := by
  unfold getL
  have : l.find? (fun p => p.1 == k) = none := by
    rw [List.find?_eq_none]
    intro p hp
    obtain ⟨i, hi, rfl⟩ := List.getElem_of_mem hp
    have := h i hi
    rw [List.getD_eq_getElem?_getD, List.getElem?_eq_getElem hi, Option.getD_some] at this
    simpa using this
  rw [this]

/-- What the document's Get answers. -/
def rgot (l : List Ent) (k : List UInt8) (E M h m : Int) : D := match getL l k with
  | some v => .tu [.ag (refC (rowE (getR l k)) E M (h + 1) m), nrm v, .b true]
  | none => .tu [.ag (refC (rowE l) E M h (m + 1)), .nilS, .b false]

theorem row_cons {l : List Ent} {x : Ent} {c : Nat → List D} (hc : c 0 = entC x) : Weak (.sl 2 (1 + l.length) (catF 1 c l.length (entF l))) (rowE (x :: l)) := by
  refine wk_row (by simp; omega) fun i hi => ?_
  have hi : i < l.length + 1 := by simpa using hi
  unfold catF
  by_cases h : i < 1
  · rw [if_pos h, show i = 0 by omega, hc]
    rfl
  · rw [if_neg h, if_pos (by omega)]
    obtain ⟨j, rfl⟩ : ∃ j, i = j + 1 := ⟨i - 1, by omega⟩
    rfl

set_option maxRecDepth 100000 in
set_option maxHeartbeats 1000000 in
theorem rget_ctr (l : List Ent) (k : List UInt8) (E M h m : Int) (hl : l.length ≤ 1000000) (hh : 0 ≤ h ∧ h ≤ 1000000) (hm : 0 ≤ m ∧ m ≤ 1000000) : Ctr Try.prog 14 [.ag (refC (rowE l) E M h m), .s k] (rgot l k E M h m) := by
  have hwo := without_ctr l k hl
  unfold rowE at hwo
  have hwl := (wo_sum l k).2
  have hfree : (rgot l k E M h m).free = true := by
    unfold rgot
    cases getL l k <;> rfl
  refine r_fun Try.func14 rfl Try.ntmps14 Try.results14 rfl hfree fun X hL hX => ?_
  unfold rowE
  repeat' (first
    | with_reducible refine t_seq ?_ | with_reducible refine t_region ?_ | with_reducible refine c_nil ?_ | with_reducible refine n_then ?_
    | with_reducible refine t_ret ?_ | with_reducible refine t_skip ?_ | with_reducible refine t_exit ?_ | with_reducible refine t_block ?_
    | with_reducible refine n_block ?_ | with_reducible refine e_then ?_ | with_reducible refine x_then ?_ | with_reducible refine x_block ?_ | with_reducible refine t_draw ?_
    | refine r_val rfl rfl True.intro ?_ | refine r_gskip rfl rfl rfl ?_ | refine r_gskip2 rfl rfl rfl ?_ | refine r_gval rfl rfl rfl rfl True.intro ?_
    | refine t_true rfl ?_ | refine t_false rfl ?_
    | ((first | refine t_cond_d rfl (fun _ => ?_) (fun _ => ?_) | refine t_cond_i rfl (fun _ => ?_) (fun _ => ?_) | refine t_cond_j rfl (fun _ => ?_) (fun _ => ?_) | refine t_cond_s rfl (fun _ => ?_) (fun _ => ?_) | refine t_cond_n rfl (fun _ => ?_) (fun _ => ?_) | refine t_cond rfl (fun _ => ?_) (fun _ => ?_) | refine c_split_d rfl rfl (fun _ => ?_) (fun _ => ?_) | refine c_split_i rfl rfl (fun _ => ?_) (fun _ => ?_) | refine c_split_j rfl rfl (fun _ => ?_) (fun _ => ?_) | refine c_split_s rfl rfl (fun _ => ?_) (fun _ => ?_) | refine c_split_n rfl rfl (fun _ => ?_) (fun _ => ?_)) <;> try (first | contradiction | (exfalso; omega)))
    | refine r_val rfl rfl (by (first | omega | exact Nat.le_of_ble_eq_true rfl | (simp_all; done) | (simp_all; omega) | ((repeat' refine And.intro ?_ ?_) <;> first | omega | rfl | exact Nat.le_refl _ | exact Nat.le_of_ble_eq_true rfl | exact bytesF_one _ | (simp_all; done) | (simp_all; omega)))) ?_ | refine r_gval rfl rfl rfl rfl (by (first | omega | exact Nat.le_of_ble_eq_true rfl | (simp_all; done) | (simp_all; omega) | ((repeat' refine And.intro ?_ ?_) <;> first | omega | rfl | exact Nat.le_refl _ | exact Nat.le_of_ble_eq_true rfl | exact bytesF_one _ | (simp_all; done) | (simp_all; omega)))) ?_
    | refine r_obj rfl rfl (by (first | omega | exact Nat.le_of_ble_eq_true rfl | (simp_all; done) | (simp_all; omega) | ((repeat' refine And.intro ?_ ?_) <;> first | omega | rfl | exact Nat.le_refl _ | exact Nat.le_of_ble_eq_true rfl | exact bytesF_one _ | (simp_all; done) | (simp_all; omega)))) ?_ | refine r_sto rfl (by (first | omega | exact Nat.le_of_ble_eq_true rfl | (simp_all; done) | (simp_all; omega) | ((repeat' refine And.intro ?_ ?_) <;> first | omega | rfl | exact Nat.le_refl _ | exact Nat.le_of_ble_eq_true rfl | exact bytesF_one _ | (simp_all; done) | (simp_all; omega)))) ?_ | refine r_gobj rfl rfl rfl rfl (by (first | omega | exact Nat.le_of_ble_eq_true rfl | (simp_all; done) | (simp_all; omega) | ((repeat' refine And.intro ?_ ?_) <;> first | omega | rfl | exact Nat.le_refl _ | exact Nat.le_of_ble_eq_true rfl | exact bytesF_one _ | (simp_all; done) | (simp_all; omega)))) ?_
    | refine e_hit rfl ?_ | refine e_miss rfl ?_
    | refine ⟨by kernel_rfl, ?_⟩ | ((with_reducible refine c_grd ?_); (fail_if_success (refine c_lit true rfl rfl rfl ?_)); (fail_if_success (refine c_lit false rfl rfl rfl ?_)); refine c_split rfl rfl (fun _ => ?_) (fun _ => ?_)))
  refine T.loop hL (fun i : Nat => [(1, .s k), (2, .pv 2 0), (4, .pv 4 0), (7, .i .i64 i)]) (fun _ => [(2, .var (refC (.sl 2 l.length (entF l)) E M h m)), (4, .var [.nilS, .i .i64 0, .i .i64 0, .i .i64 0, .i .i64 0])]) (fun i => i ≤ l.length ∧ ∀ j, j < i → (l.getD j dE).1 ≠ k) (fun i => l.length - i) 0 ⟨Nat.zero_le _, fun j hj => by omega⟩
    ⟨⟨rfl, rfl, rfl, rfl, trivial⟩, ⟨rfl, rfl, trivial⟩, rfl, fun q hq => by rw [hX] at hq; simp at hq⟩ ?_
  rintro i ⟨hi, hne⟩
  by_cases hil : i < l.length
  · have hnat : (i : Int).toNat = i := Int.toNat_natCast i
    by_cases hk : (l.getD (i : Int).toNat dE).1 = k
    · have hg : getL l k = some (l.getD (i : Int).toNat dE).2 := by
        rw [hnat] at hk ⊢
        exact getL_hit hil hk hne
      have hr : rgot l k E M h m = .tu [.ag (refC (rowE ((k, (l.getD (i : Int).toNat dE).2) :: woL l k)) E M (h + 1) m), nrm (l.getD (i : Int).toNat dE).2, .b true] := by
        unfold rgot getR
        rw [hg]
      rw [hr]
      repeat' (first
        | refine r_call (f := 26) rfl rfl Try.call26 rfl hwo ?_
        | with_reducible refine t_seq ?_ | with_reducible refine t_region ?_ | with_reducible refine c_nil ?_ | with_reducible refine n_then ?_
        | with_reducible refine t_ret ?_ | with_reducible refine t_skip ?_ | with_reducible refine t_exit ?_ | with_reducible refine t_block ?_
        | with_reducible refine n_block ?_ | with_reducible refine e_then ?_ | with_reducible refine x_then ?_ | with_reducible refine x_block ?_ | with_reducible refine t_draw ?_
        | refine r_val rfl rfl True.intro ?_ | refine r_gskip rfl rfl rfl ?_ | refine r_gskip2 rfl rfl rfl ?_ | refine r_gval rfl rfl rfl rfl True.intro ?_
        | refine t_true rfl ?_ | refine t_false rfl ?_
        | ((first | refine t_cond_d rfl (fun _ => ?_) (fun _ => ?_) | refine t_cond_i rfl (fun _ => ?_) (fun _ => ?_) | refine t_cond_j rfl (fun _ => ?_) (fun _ => ?_) | refine t_cond_s rfl (fun _ => ?_) (fun _ => ?_) | refine t_cond_n rfl (fun _ => ?_) (fun _ => ?_) | refine t_cond rfl (fun _ => ?_) (fun _ => ?_) | refine c_split_d rfl rfl (fun _ => ?_) (fun _ => ?_) | refine c_split_i rfl rfl (fun _ => ?_) (fun _ => ?_) | refine c_split_j rfl rfl (fun _ => ?_) (fun _ => ?_) | refine c_split_s rfl rfl (fun _ => ?_) (fun _ => ?_) | refine c_split_n rfl rfl (fun _ => ?_) (fun _ => ?_)) <;> try (first | contradiction | (exfalso; omega)))
        | refine r_val rfl rfl (by (first | omega | exact Nat.le_of_ble_eq_true rfl | (simp_all; done) | (simp_all; omega) | ((repeat' refine And.intro ?_ ?_) <;> first | omega | rfl | exact Nat.le_refl _ | exact Nat.le_of_ble_eq_true rfl | exact bytesF_one _ | (simp_all; done) | (simp_all; omega)))) ?_ | refine r_gval rfl rfl rfl rfl (by (first | omega | exact Nat.le_of_ble_eq_true rfl | (simp_all; done) | (simp_all; omega) | ((repeat' refine And.intro ?_ ?_) <;> first | omega | rfl | exact Nat.le_refl _ | exact Nat.le_of_ble_eq_true rfl | exact bytesF_one _ | (simp_all; done) | (simp_all; omega)))) ?_
        | refine r_obj rfl rfl (by (first | omega | exact Nat.le_of_ble_eq_true rfl | (simp_all; done) | (simp_all; omega) | ((repeat' refine And.intro ?_ ?_) <;> first | omega | rfl | exact Nat.le_refl _ | exact Nat.le_of_ble_eq_true rfl | exact bytesF_one _ | (simp_all; done) | (simp_all; omega)))) ?_ | refine r_sto rfl (by (first | omega | exact Nat.le_of_ble_eq_true rfl | (simp_all; done) | (simp_all; omega) | ((repeat' refine And.intro ?_ ?_) <;> first | omega | rfl | exact Nat.le_refl _ | exact Nat.le_of_ble_eq_true rfl | exact bytesF_one _ | (simp_all; done) | (simp_all; omega)))) ?_ | refine r_gobj rfl rfl rfl rfl (by (first | omega | exact Nat.le_of_ble_eq_true rfl | (simp_all; done) | (simp_all; omega) | ((repeat' refine And.intro ?_ ?_) <;> first | omega | rfl | exact Nat.le_refl _ | exact Nat.le_of_ble_eq_true rfl | exact bytesF_one _ | (simp_all; done) | (simp_all; omega)))) ?_
        | refine e_hit rfl ?_ | refine e_miss rfl ?_
        | refine ⟨by kernel_rfl, ?_⟩ | refine x_endw rfl (.tu3 (wk_cache (row_cons (by show entC (l.getD (i : Int).toNat dE) = _; unfold entC; rw [hk])) rfl rfl rfl rfl) (.refl _) (.refl _)) | refine n_endw rfl (.tu3 (wk_cache (row_cons (by show entC (l.getD (i : Int).toNat dE) = _; unfold entC; rw [hk])) rfl rfl rfl rfl) (.refl _) (.refl _)) | ((with_reducible refine c_grd ?_); (fail_if_success (refine c_lit true rfl rfl rfl ?_)); (fail_if_success (refine c_lit false rfl rfl rfl ?_)); refine c_split rfl rfl (fun _ => ?_) (fun _ => ?_)))
    · skip
      repeat' (first
        | with_reducible refine t_seq ?_ | with_reducible refine t_region ?_ | with_reducible refine c_nil ?_ | with_reducible refine n_then ?_
        | with_reducible refine t_ret ?_ | with_reducible refine t_skip ?_ | with_reducible refine t_exit ?_ | with_reducible refine t_block ?_
        | with_reducible refine n_block ?_ | with_reducible refine e_then ?_ | with_reducible refine x_then ?_ | with_reducible refine x_block ?_ | with_reducible refine t_draw ?_
        | refine r_val rfl rfl True.intro ?_ | refine r_gskip rfl rfl rfl ?_ | refine r_gskip2 rfl rfl rfl ?_ | refine r_gval rfl rfl rfl rfl True.intro ?_
        | refine t_true rfl ?_ | refine t_false rfl ?_
        | ((first | refine t_cond_d rfl (fun _ => ?_) (fun _ => ?_) | refine t_cond_i rfl (fun _ => ?_) (fun _ => ?_) | refine t_cond_j rfl (fun _ => ?_) (fun _ => ?_) | refine t_cond_s rfl (fun _ => ?_) (fun _ => ?_) | refine t_cond_n rfl (fun _ => ?_) (fun _ => ?_) | refine t_cond rfl (fun _ => ?_) (fun _ => ?_) | refine c_split_d rfl rfl (fun _ => ?_) (fun _ => ?_) | refine c_split_i rfl rfl (fun _ => ?_) (fun _ => ?_) | refine c_split_j rfl rfl (fun _ => ?_) (fun _ => ?_) | refine c_split_s rfl rfl (fun _ => ?_) (fun _ => ?_) | refine c_split_n rfl rfl (fun _ => ?_) (fun _ => ?_)) <;> try (first | contradiction | (exfalso; omega)))
        | refine r_val rfl rfl (by (first | omega | exact Nat.le_of_ble_eq_true rfl | (simp_all; done) | (simp_all; omega) | ((repeat' refine And.intro ?_ ?_) <;> first | omega | rfl | exact Nat.le_refl _ | exact Nat.le_of_ble_eq_true rfl | exact bytesF_one _ | (simp_all; done) | (simp_all; omega)))) ?_ | refine r_gval rfl rfl rfl rfl (by (first | omega | exact Nat.le_of_ble_eq_true rfl | (simp_all; done) | (simp_all; omega) | ((repeat' refine And.intro ?_ ?_) <;> first | omega | rfl | exact Nat.le_refl _ | exact Nat.le_of_ble_eq_true rfl | exact bytesF_one _ | (simp_all; done) | (simp_all; omega)))) ?_
        | refine r_obj rfl rfl (by (first | omega | exact Nat.le_of_ble_eq_true rfl | (simp_all; done) | (simp_all; omega) | ((repeat' refine And.intro ?_ ?_) <;> first | omega | rfl | exact Nat.le_refl _ | exact Nat.le_of_ble_eq_true rfl | exact bytesF_one _ | (simp_all; done) | (simp_all; omega)))) ?_ | refine r_sto rfl (by (first | omega | exact Nat.le_of_ble_eq_true rfl | (simp_all; done) | (simp_all; omega) | ((repeat' refine And.intro ?_ ?_) <;> first | omega | rfl | exact Nat.le_refl _ | exact Nat.le_of_ble_eq_true rfl | exact bytesF_one _ | (simp_all; done) | (simp_all; omega)))) ?_ | refine r_gobj rfl rfl rfl rfl (by (first | omega | exact Nat.le_of_ble_eq_true rfl | (simp_all; done) | (simp_all; omega) | ((repeat' refine And.intro ?_ ?_) <;> first | omega | rfl | exact Nat.le_refl _ | exact Nat.le_of_ble_eq_true rfl | exact bytesF_one _ | (simp_all; done) | (simp_all; omega)))) ?_
        | refine e_hit rfl ?_ | refine e_miss rfl ?_
        | refine ⟨by kernel_rfl, ?_⟩ | ((with_reducible refine c_grd ?_); (fail_if_success (refine c_lit true rfl rfl rfl ?_)); (fail_if_success (refine c_lit false rfl rfl rfl ?_)); refine c_split rfl rfl (fun _ => ?_) (fun _ => ?_)))
      all_goals exact ⟨i + 1, ⟨by omega, fun j hj => by
        rcases Nat.lt_succ_iff_lt_or_eq.1 hj with hj | rfl
        · exact hne j hj
        · rw [hnat] at hk
          exact hk⟩, by omega, ⟨rfl, rfl, rfl, rfl, trivial⟩, ⟨rfl, rfl, trivial⟩, rfl, fun q hq => by rw [hX] at hq; simp at hq⟩
  · have hg : getL l k = none := getL_miss fun j hj => hne j (by omega)
    have hr : rgot l k E M h m = .tu [.ag (refC (rowE l) E M h (m + 1)), .nilS, .b false] := by
      unfold rgot
      rw [hg]
    rw [hr]
    repeat' (first
      | with_reducible refine t_seq ?_ | with_reducible refine t_region ?_ | with_reducible refine c_nil ?_ | with_reducible refine n_then ?_
      | with_reducible refine t_ret ?_ | with_reducible refine t_skip ?_ | with_reducible refine t_exit ?_ | with_reducible refine t_block ?_
      | with_reducible refine n_block ?_ | with_reducible refine e_then ?_ | with_reducible refine x_then ?_ | with_reducible refine x_block ?_ | with_reducible refine t_draw ?_
      | refine r_val rfl rfl True.intro ?_ | refine r_gskip rfl rfl rfl ?_ | refine r_gskip2 rfl rfl rfl ?_ | refine r_gval rfl rfl rfl rfl True.intro ?_
      | refine t_true rfl ?_ | refine t_false rfl ?_
      | ((first | refine t_cond_d rfl (fun _ => ?_) (fun _ => ?_) | refine t_cond_i rfl (fun _ => ?_) (fun _ => ?_) | refine t_cond_j rfl (fun _ => ?_) (fun _ => ?_) | refine t_cond_s rfl (fun _ => ?_) (fun _ => ?_) | refine t_cond_n rfl (fun _ => ?_) (fun _ => ?_) | refine t_cond rfl (fun _ => ?_) (fun _ => ?_) | refine c_split_d rfl rfl (fun _ => ?_) (fun _ => ?_) | refine c_split_i rfl rfl (fun _ => ?_) (fun _ => ?_) | refine c_split_j rfl rfl (fun _ => ?_) (fun _ => ?_) | refine c_split_s rfl rfl (fun _ => ?_) (fun _ => ?_) | refine c_split_n rfl rfl (fun _ => ?_) (fun _ => ?_)) <;> try (first | contradiction | (exfalso; omega)))
      | refine r_val rfl rfl (by (first | omega | exact Nat.le_of_ble_eq_true rfl | (simp_all; done) | (simp_all; omega) | ((repeat' refine And.intro ?_ ?_) <;> first | omega | rfl | exact Nat.le_refl _ | exact Nat.le_of_ble_eq_true rfl | exact bytesF_one _ | (simp_all; done) | (simp_all; omega)))) ?_ | refine r_gval rfl rfl rfl rfl (by (first | omega | exact Nat.le_of_ble_eq_true rfl | (simp_all; done) | (simp_all; omega) | ((repeat' refine And.intro ?_ ?_) <;> first | omega | rfl | exact Nat.le_refl _ | exact Nat.le_of_ble_eq_true rfl | exact bytesF_one _ | (simp_all; done) | (simp_all; omega)))) ?_
      | refine r_obj rfl rfl (by (first | omega | exact Nat.le_of_ble_eq_true rfl | (simp_all; done) | (simp_all; omega) | ((repeat' refine And.intro ?_ ?_) <;> first | omega | rfl | exact Nat.le_refl _ | exact Nat.le_of_ble_eq_true rfl | exact bytesF_one _ | (simp_all; done) | (simp_all; omega)))) ?_ | refine r_sto rfl (by (first | omega | exact Nat.le_of_ble_eq_true rfl | (simp_all; done) | (simp_all; omega) | ((repeat' refine And.intro ?_ ?_) <;> first | omega | rfl | exact Nat.le_refl _ | exact Nat.le_of_ble_eq_true rfl | exact bytesF_one _ | (simp_all; done) | (simp_all; omega)))) ?_ | refine r_gobj rfl rfl rfl rfl (by (first | omega | exact Nat.le_of_ble_eq_true rfl | (simp_all; done) | (simp_all; omega) | ((repeat' refine And.intro ?_ ?_) <;> first | omega | rfl | exact Nat.le_refl _ | exact Nat.le_of_ble_eq_true rfl | exact bytesF_one _ | (simp_all; done) | (simp_all; omega)))) ?_
      | refine e_hit rfl ?_ | refine e_miss rfl ?_
      | refine ⟨by kernel_rfl, ?_⟩ | refine x_end rfl rfl | refine n_end rfl rfl | ((with_reducible refine c_grd ?_); (fail_if_success (refine c_lit true rfl rfl rfl ?_)); (fail_if_success (refine c_lit false rfl rfl rfl ?_)); refine c_split rfl rfl (fun _ => ?_) (fun _ => ?_)))

theorem sl_cut {n : Nat} {f : Nat → List D} : D.sl 2 (((n : Int) - 1).toNat - (0 : Int).toNat) (fun i => f ((0 : Int).toNat + i)) = .sl 2 (n - 1) f := by
  have e : (fun i => f ((0 : Int).toNat + i)) = f := by
    funext i
    rw [show (0 : Int).toNat + i = i by simp]
  rw [e, show ((n : Int) - 1).toNat - (0 : Int).toNat = n - 1 by omega]

set_option maxRecDepth 100000 in
theorem rput_no (l : List Ent) (k : List UInt8) (len : Nat) (f : Nat → List D) (E M h m : Int) (hp : putB E M k (.sl 1 len f) = false) (hb : k.length + len ≤ 3000000) : Ctr Try.prog 15 [.ag (refC (rowE l) E M h m), .s k, .sl 1 len f] (.tu [.ag (refC (rowE l) E M h m), .b false]) := by
  have hc : E = 0 ∨ M < (k.length : Int) + (len : Int) := by
    unfold putB at hp
    by_cases h1 : E = 0
    · exact .inl h1
    · refine .inr (Classical.byContradiction fun h2 => ?_)
      have h3 : ¬ M < (k.length : Int) + (lenOf (.sl 1 len f) : Int) := h2
      simp [h1, h3] at hp
  refine r_fun Try.func15 rfl Try.ntmps15 Try.results15 rfl rfl fun X hL hX => ?_
  unfold rowE
  repeat' (first
    | with_reducible refine t_seq ?_ | with_reducible refine t_region ?_ | with_reducible refine c_nil ?_ | with_reducible refine n_then ?_
    | with_reducible refine t_ret ?_ | with_reducible refine t_skip ?_ | with_reducible refine t_exit ?_ | with_reducible refine t_block ?_
    | with_reducible refine n_block ?_ | with_reducible refine e_then ?_ | with_reducible refine x_then ?_ | with_reducible refine x_block ?_ | with_reducible refine t_draw ?_
    | refine r_val rfl rfl True.intro ?_ | refine r_gskip rfl rfl rfl ?_ | refine r_gskip2 rfl rfl rfl ?_ | refine r_gval rfl rfl rfl rfl True.intro ?_
    | refine t_true rfl ?_ | refine t_false rfl ?_
    | ((first | refine t_cond_d rfl (fun _ => ?_) (fun _ => ?_) | refine t_cond_i rfl (fun _ => ?_) (fun _ => ?_) | refine t_cond_j rfl (fun _ => ?_) (fun _ => ?_) | refine t_cond_s rfl (fun _ => ?_) (fun _ => ?_) | refine t_cond_n rfl (fun _ => ?_) (fun _ => ?_) | refine t_cond rfl (fun _ => ?_) (fun _ => ?_) | refine c_split_d rfl rfl (fun _ => ?_) (fun _ => ?_) | refine c_split_i rfl rfl (fun _ => ?_) (fun _ => ?_) | refine c_split_j rfl rfl (fun _ => ?_) (fun _ => ?_) | refine c_split_s rfl rfl (fun _ => ?_) (fun _ => ?_) | refine c_split_n rfl rfl (fun _ => ?_) (fun _ => ?_)) <;> try (first | contradiction | (exfalso; omega)))
    | refine r_val rfl rfl (by (first | omega | exact Nat.le_of_ble_eq_true rfl | (simp_all; done) | (simp_all; omega) | ((repeat' refine And.intro ?_ ?_) <;> first | omega | rfl | exact Nat.le_refl _ | exact Nat.le_of_ble_eq_true rfl | exact bytesF_one _ | (simp_all; done) | (simp_all; omega)))) ?_ | refine r_gval rfl rfl rfl rfl (by (first | omega | exact Nat.le_of_ble_eq_true rfl | (simp_all; done) | (simp_all; omega) | ((repeat' refine And.intro ?_ ?_) <;> first | omega | rfl | exact Nat.le_refl _ | exact Nat.le_of_ble_eq_true rfl | exact bytesF_one _ | (simp_all; done) | (simp_all; omega)))) ?_
    | refine r_obj rfl rfl (by (first | omega | exact Nat.le_of_ble_eq_true rfl | (simp_all; done) | (simp_all; omega) | ((repeat' refine And.intro ?_ ?_) <;> first | omega | rfl | exact Nat.le_refl _ | exact Nat.le_of_ble_eq_true rfl | exact bytesF_one _ | (simp_all; done) | (simp_all; omega)))) ?_ | refine r_sto rfl (by (first | omega | exact Nat.le_of_ble_eq_true rfl | (simp_all; done) | (simp_all; omega) | ((repeat' refine And.intro ?_ ?_) <;> first | omega | rfl | exact Nat.le_refl _ | exact Nat.le_of_ble_eq_true rfl | exact bytesF_one _ | (simp_all; done) | (simp_all; omega)))) ?_ | refine r_gobj rfl rfl rfl rfl (by (first | omega | exact Nat.le_of_ble_eq_true rfl | (simp_all; done) | (simp_all; omega) | ((repeat' refine And.intro ?_ ?_) <;> first | omega | rfl | exact Nat.le_refl _ | exact Nat.le_of_ble_eq_true rfl | exact bytesF_one _ | (simp_all; done) | (simp_all; omega)))) ?_
    | refine e_hit rfl ?_ | refine e_miss rfl ?_
    | refine ⟨by kernel_rfl, ?_⟩ | refine x_end rfl rfl | refine n_end rfl rfl | ((with_reducible refine c_grd ?_); (fail_if_success (refine c_lit true rfl rfl rfl ?_)); (fail_if_success (refine c_lit false rfl rfl rfl ?_)); refine c_split rfl rfl (fun _ => ?_) (fun _ => ?_)))

theorem take_dl (l : List Ent) {n : Nat} (h : n ≤ l.length) : (l.take n).dropLast = l.take (n - 1) := by
  rw [List.dropLast_eq_take, List.length_take, List.take_take]
  congr 1
  omega

set_option maxRecDepth 100000 in
set_option maxHeartbeats 1000000 in
theorem rput_yes (l : List Ent) (k : List UInt8) (len : Nat) (f : Nat → List D) (E M h m : Int) (hp : putB E M k (.sl 1 len f) = true) (hl : l.length ≤ 999999) (hb : sumL l + (k.length + len) ≤ 1000000) (hE : 0 ≤ E) (hM : 0 ≤ M) : Ctr Try.prog 15 [.ag (refC (rowE l) E M h m), .s k, .sl 1 len f] (.tu [.ag (refC (rowE (putL E M l k (.sl 1 len f))) E M h m), .b true]) := by
  have hc : ¬ (E = 0 ∨ M < (k.length : Int) + (len : Int)) := by
    unfold putB at hp
    rintro (h1 | h1)
    · simp [h1] at hp
    · have h3 : M < (k.length : Int) + (lenOf (.sl 1 len f) : Int) := h1
      simp [h3] at hp
  have hwo := without_ctr l k (by omega)
  unfold rowE at hwo
  have hwl := wo_sum l k
  refine r_fun Try.func15 rfl Try.ntmps15 Try.results15 rfl rfl fun X hL hX => ?_
  have e0 : putL E M l k (.sl 1 len f) = evL ((k, D.sl 1 len f) :: woL l k).length E M ((k, .sl 1 len f) :: woL l k) := rfl
  have hs0 : sumL ((k, D.sl 1 len f) :: woL l k) ≤ 1000000 := by simp only [sumL, esz, lenOf]; omega
  have hl0 : ((k, D.sl 1 len f) :: woL l k).length = (woL l k).length + 1 := rfl
  have hrow : ∀ c : Nat → List D, c 0 = entC (k, .sl 1 len f) → Weak (.sl 2 (1 + (woL l k).length) (catF 1 c (woL l k).length (entF (woL l k)))) (rowE ((k, .sl 1 len f) :: woL l k)) := fun c hc => row_cons hc
  generalize hL0 : ((k, D.sl 1 len f) :: woL l k) = l0 at *
  generalize hfin : putL E M l k (.sl 1 len f) = fin at *
  have hrl : (rowE l) = .sl 2 l.length (entF l) := rfl
  rw [hrl]
  repeat' (first
    | refine r_call (f := 26) rfl rfl Try.call26 rfl hwo ?_
    | with_reducible refine t_seq ?_ | with_reducible refine t_region ?_ | with_reducible refine c_nil ?_ | with_reducible refine n_then ?_
    | with_reducible refine t_ret ?_ | with_reducible refine t_skip ?_ | with_reducible refine t_exit ?_ | with_reducible refine t_block ?_
    | with_reducible refine n_block ?_ | with_reducible refine e_then ?_ | with_reducible refine x_then ?_ | with_reducible refine x_block ?_ | with_reducible refine t_draw ?_
    | refine r_val rfl rfl True.intro ?_ | refine r_gskip rfl rfl rfl ?_ | refine r_gskip2 rfl rfl rfl ?_ | refine r_gval rfl rfl rfl rfl True.intro ?_
    | refine t_true rfl ?_ | refine t_false rfl ?_
    | ((first | refine t_cond_d rfl (fun _ => ?_) (fun _ => ?_) | refine t_cond_i rfl (fun _ => ?_) (fun _ => ?_) | refine t_cond_j rfl (fun _ => ?_) (fun _ => ?_) | refine t_cond_s rfl (fun _ => ?_) (fun _ => ?_) | refine t_cond_n rfl (fun _ => ?_) (fun _ => ?_) | refine t_cond rfl (fun _ => ?_) (fun _ => ?_) | refine c_split_d rfl rfl (fun _ => ?_) (fun _ => ?_) | refine c_split_i rfl rfl (fun _ => ?_) (fun _ => ?_) | refine c_split_j rfl rfl (fun _ => ?_) (fun _ => ?_) | refine c_split_s rfl rfl (fun _ => ?_) (fun _ => ?_) | refine c_split_n rfl rfl (fun _ => ?_) (fun _ => ?_)) <;> try (first | contradiction | (exfalso; omega)))
    | refine r_val rfl rfl (by (first | omega | exact Nat.le_of_ble_eq_true rfl | (simp_all; done) | (simp_all; omega) | ((repeat' refine And.intro ?_ ?_) <;> first | omega | rfl | exact Nat.le_refl _ | exact Nat.le_of_ble_eq_true rfl | exact bytesF_one _ | (simp_all; done) | (simp_all; omega)))) ?_ | refine r_gval rfl rfl rfl rfl (by (first | omega | exact Nat.le_of_ble_eq_true rfl | (simp_all; done) | (simp_all; omega) | ((repeat' refine And.intro ?_ ?_) <;> first | omega | rfl | exact Nat.le_refl _ | exact Nat.le_of_ble_eq_true rfl | exact bytesF_one _ | (simp_all; done) | (simp_all; omega)))) ?_
    | refine r_obj rfl rfl (by (first | omega | exact Nat.le_of_ble_eq_true rfl | (simp_all; done) | (simp_all; omega) | ((repeat' refine And.intro ?_ ?_) <;> first | omega | rfl | exact Nat.le_refl _ | exact Nat.le_of_ble_eq_true rfl | exact bytesF_one _ | (simp_all; done) | (simp_all; omega)))) ?_ | refine r_sto rfl (by (first | omega | exact Nat.le_of_ble_eq_true rfl | (simp_all; done) | (simp_all; omega) | ((repeat' refine And.intro ?_ ?_) <;> first | omega | rfl | exact Nat.le_refl _ | exact Nat.le_of_ble_eq_true rfl | exact bytesF_one _ | (simp_all; done) | (simp_all; omega)))) ?_ | refine r_gobj rfl rfl rfl rfl (by (first | omega | exact Nat.le_of_ble_eq_true rfl | (simp_all; done) | (simp_all; omega) | ((repeat' refine And.intro ?_ ?_) <;> first | omega | rfl | exact Nat.le_refl _ | exact Nat.le_of_ble_eq_true rfl | exact bytesF_one _ | (simp_all; done) | (simp_all; omega)))) ?_
    | refine e_hit rfl ?_ | refine e_miss rfl ?_
    | refine ⟨by kernel_rfl, ?_⟩ | ((with_reducible refine c_grd ?_); (fail_if_success (refine c_lit true rfl rfl rfl ?_)); (fail_if_success (refine c_lit false rfl rfl rfl ?_)); refine c_split rfl rfl (fun _ => ?_) (fun _ => ?_)))
  refine T.telL 3 rfl (hrow _ rfl) rfl ?_
  refine T.loop hL (fun _ : Nat => [(3, .pv 3 0), (6, .pv 6 0)]) (fun n => [(3, .var (refC (.sl 2 n (entF l0)) E M h m)), (6, .var [.nilS, .i .i64 0, .i .i64 0, .i .i64 0, .i .i64 0])]) (fun n => n ≤ l0.length ∧ fin = evL n E M (l0.take n)) (fun n => n) l0.length ⟨Nat.le_refl _, by rw [List.take_length]; exact e0⟩
    ⟨⟨rfl, rfl, trivial⟩, ⟨rfl, rfl, trivial⟩, rfl, fun q hq => by rw [hX] at hq; simp at hq⟩ ?_
  rintro n ⟨hn, hev⟩
  have hln : (l0.take n).length = n := by rw [List.length_take]; omega
  have hsn := sum_take_le l0 n
  have hsz := (rsize_ctr (l0.take n) E M h m (by omega) (by omega)).weak1 (wk_cache (d := .sl 2 n (entF l0)) (wk_row hln.symm fun i hi => by
    rw [hln] at hi
    unfold entF
    congr 1
    simp [List.getD_eq_getElem?_getD, List.getElem?_take, hi]) rfl rfl rfl rfl)
  by_cases hcc : E < (n : Int) ∨ M < (sumL (l0.take n) : Int)
  · have hn0 : 0 < n := by
      rcases Nat.eq_zero_or_pos n with h0 | h0
      · subst h0
        simp only [List.take_zero, sumL] at hcc
        omega
      · exact h0
    obtain ⟨n', rfl⟩ : ∃ n', n = n' + 1 := ⟨n - 1, by omega⟩
    have hev2 : fin = evL n' E M (l0.take n') := by
      rw [hev]
      conv => lhs; unfold evL
      rw [if_pos (by rw [hln]; exact hcc), take_dl l0 hn]
      rfl
    repeat' (first
      | refine r_gcall (f := 20) rfl rfl rfl rfl Try.call20 rfl hsz ?_
      | with_reducible refine t_seq ?_ | with_reducible refine t_region ?_ | with_reducible refine c_nil ?_ | with_reducible refine n_then ?_
      | with_reducible refine t_ret ?_ | with_reducible refine t_skip ?_ | with_reducible refine t_exit ?_ | with_reducible refine t_block ?_
      | with_reducible refine n_block ?_ | with_reducible refine e_then ?_ | with_reducible refine x_then ?_ | with_reducible refine x_block ?_ | with_reducible refine t_draw ?_
      | refine r_val rfl rfl True.intro ?_ | refine r_gskip rfl rfl rfl ?_ | refine r_gskip2 rfl rfl rfl ?_ | refine r_gval rfl rfl rfl rfl True.intro ?_
      | refine t_true rfl ?_ | refine t_false rfl ?_
      | ((first | refine t_cond_d rfl (fun _ => ?_) (fun _ => ?_) | refine t_cond_i rfl (fun _ => ?_) (fun _ => ?_) | refine t_cond_j rfl (fun _ => ?_) (fun _ => ?_) | refine t_cond_s rfl (fun _ => ?_) (fun _ => ?_) | refine t_cond_n rfl (fun _ => ?_) (fun _ => ?_) | refine t_cond rfl (fun _ => ?_) (fun _ => ?_) | refine c_split_d rfl rfl (fun _ => ?_) (fun _ => ?_) | refine c_split_i rfl rfl (fun _ => ?_) (fun _ => ?_) | refine c_split_j rfl rfl (fun _ => ?_) (fun _ => ?_) | refine c_split_s rfl rfl (fun _ => ?_) (fun _ => ?_) | refine c_split_n rfl rfl (fun _ => ?_) (fun _ => ?_)) <;> try (first | contradiction | (exfalso; omega)))
      | refine r_val rfl rfl (by (first | omega | exact Nat.le_of_ble_eq_true rfl | (simp_all; done) | (simp_all; omega) | ((repeat' refine And.intro ?_ ?_) <;> first | omega | rfl | exact Nat.le_refl _ | exact Nat.le_of_ble_eq_true rfl | exact bytesF_one _ | (simp_all; done) | (simp_all; omega)))) ?_ | refine r_gval rfl rfl rfl rfl (by (first | omega | exact Nat.le_of_ble_eq_true rfl | (simp_all; done) | (simp_all; omega) | ((repeat' refine And.intro ?_ ?_) <;> first | omega | rfl | exact Nat.le_refl _ | exact Nat.le_of_ble_eq_true rfl | exact bytesF_one _ | (simp_all; done) | (simp_all; omega)))) ?_
      | refine r_obj rfl rfl (by (first | omega | exact Nat.le_of_ble_eq_true rfl | (simp_all; done) | (simp_all; omega) | ((repeat' refine And.intro ?_ ?_) <;> first | omega | rfl | exact Nat.le_refl _ | exact Nat.le_of_ble_eq_true rfl | exact bytesF_one _ | (simp_all; done) | (simp_all; omega)))) ?_ | refine r_sto rfl (by (first | omega | exact Nat.le_of_ble_eq_true rfl | (simp_all; done) | (simp_all; omega) | ((repeat' refine And.intro ?_ ?_) <;> first | omega | rfl | exact Nat.le_refl _ | exact Nat.le_of_ble_eq_true rfl | exact bytesF_one _ | (simp_all; done) | (simp_all; omega)))) ?_ | refine r_gobj rfl rfl rfl rfl (by (first | omega | exact Nat.le_of_ble_eq_true rfl | (simp_all; done) | (simp_all; omega) | ((repeat' refine And.intro ?_ ?_) <;> first | omega | rfl | exact Nat.le_refl _ | exact Nat.le_of_ble_eq_true rfl | exact bytesF_one _ | (simp_all; done) | (simp_all; omega)))) ?_
      | refine e_hit rfl ?_ | refine e_miss rfl ?_
      | refine ⟨by kernel_rfl, ?_⟩ | ((with_reducible refine c_grd ?_); (fail_if_success (refine c_lit true rfl rfl rfl ?_)); (fail_if_success (refine c_lit false rfl rfl rfl ?_)); refine c_split rfl rfl (fun _ => ?_) (fun _ => ?_)))
    all_goals exact ⟨n', ⟨by omega, hev2⟩, by omega, ⟨rfl, rfl, trivial⟩, ⟨by rw [show n' = n' + 1 - 1 by omega, ← sl_cut]; rfl, rfl, trivial⟩, rfl, fun q hq => by rw [hX] at hq; simp at hq⟩
  · have hst : fin = l0.take n := by
      rw [hev]
      cases n with
      | zero => rfl
      | succ n => exact if_neg (by rw [hln]; exact hcc)
    have hwk : Weak (.sl 2 n (entF l0)) (rowE fin) := by
      rw [hst]
      refine wk_row hln.symm fun i hi => ?_
      rw [hln] at hi
      unfold entF
      congr 1
      simp [List.getD_eq_getElem?_getD, List.getElem?_take, hi]
    repeat' (first
      | refine r_gcall (f := 20) rfl rfl rfl rfl Try.call20 rfl hsz ?_
      | with_reducible refine t_seq ?_ | with_reducible refine t_region ?_ | with_reducible refine c_nil ?_ | with_reducible refine n_then ?_
      | with_reducible refine t_ret ?_ | with_reducible refine t_skip ?_ | with_reducible refine t_exit ?_ | with_reducible refine t_block ?_
      | with_reducible refine n_block ?_ | with_reducible refine e_then ?_ | with_reducible refine x_then ?_ | with_reducible refine x_block ?_ | with_reducible refine t_draw ?_
      | refine r_val rfl rfl True.intro ?_ | refine r_gskip rfl rfl rfl ?_ | refine r_gskip2 rfl rfl rfl ?_ | refine r_gval rfl rfl rfl rfl True.intro ?_
      | refine t_true rfl ?_ | refine t_false rfl ?_
      | ((first | refine t_cond_d rfl (fun _ => ?_) (fun _ => ?_) | refine t_cond_i rfl (fun _ => ?_) (fun _ => ?_) | refine t_cond_j rfl (fun _ => ?_) (fun _ => ?_) | refine t_cond_s rfl (fun _ => ?_) (fun _ => ?_) | refine t_cond_n rfl (fun _ => ?_) (fun _ => ?_) | refine t_cond rfl (fun _ => ?_) (fun _ => ?_) | refine c_split_d rfl rfl (fun _ => ?_) (fun _ => ?_) | refine c_split_i rfl rfl (fun _ => ?_) (fun _ => ?_) | refine c_split_j rfl rfl (fun _ => ?_) (fun _ => ?_) | refine c_split_s rfl rfl (fun _ => ?_) (fun _ => ?_) | refine c_split_n rfl rfl (fun _ => ?_) (fun _ => ?_)) <;> try (first | contradiction | (exfalso; omega)))
      | refine r_val rfl rfl (by (first | omega | exact Nat.le_of_ble_eq_true rfl | (simp_all; done) | (simp_all; omega) | ((repeat' refine And.intro ?_ ?_) <;> first | omega | rfl | exact Nat.le_refl _ | exact Nat.le_of_ble_eq_true rfl | exact bytesF_one _ | (simp_all; done) | (simp_all; omega)))) ?_ | refine r_gval rfl rfl rfl rfl (by (first | omega | exact Nat.le_of_ble_eq_true rfl | (simp_all; done) | (simp_all; omega) | ((repeat' refine And.intro ?_ ?_) <;> first | omega | rfl | exact Nat.le_refl _ | exact Nat.le_of_ble_eq_true rfl | exact bytesF_one _ | (simp_all; done) | (simp_all; omega)))) ?_
      | refine r_obj rfl rfl (by (first | omega | exact Nat.le_of_ble_eq_true rfl | (simp_all; done) | (simp_all; omega) | ((repeat' refine And.intro ?_ ?_) <;> first | omega | rfl | exact Nat.le_refl _ | exact Nat.le_of_ble_eq_true rfl | exact bytesF_one _ | (simp_all; done) | (simp_all; omega)))) ?_ | refine r_sto rfl (by (first | omega | exact Nat.le_of_ble_eq_true rfl | (simp_all; done) | (simp_all; omega) | ((repeat' refine And.intro ?_ ?_) <;> first | omega | rfl | exact Nat.le_refl _ | exact Nat.le_of_ble_eq_true rfl | exact bytesF_one _ | (simp_all; done) | (simp_all; omega)))) ?_ | refine r_gobj rfl rfl rfl rfl (by (first | omega | exact Nat.le_of_ble_eq_true rfl | (simp_all; done) | (simp_all; omega) | ((repeat' refine And.intro ?_ ?_) <;> first | omega | rfl | exact Nat.le_refl _ | exact Nat.le_of_ble_eq_true rfl | exact bytesF_one _ | (simp_all; done) | (simp_all; omega)))) ?_
      | refine e_hit rfl ?_ | refine e_miss rfl ?_
      | refine ⟨by kernel_rfl, ?_⟩ | refine x_endw rfl (.tu2 (wk_cache hwk rfl rfl rfl rfl) (.refl _)) | refine n_endw rfl (.tu2 (wk_cache hwk rfl rfl rfl rfl) (.refl _)) | ((with_reducible refine c_grd ?_); (fail_if_success (refine c_lit true rfl rfl rfl ?_)); (fail_if_success (refine c_lit false rfl rfl rfl ?_)); refine c_split rfl rfl (fun _ => ?_) (fun _ => ?_)))

end Go.Proofs.Ytghhohckonbkkaa.Flow

/- LRU: the law of any calls. -/
namespace Go.Proofs.Ytghhohckonbkkaa.Flow
open Go

structure PlayI (l : List ActV) (E0 S0 : Int) (i : Nat) (g : Rg) (la : List Ent) (h m : Int) : Prop where
  H : Holds g la (max E0 0) (max S0 0) h m
  il : i ≤ l.length
  hh : 0 ≤ h ∧ h ≤ i
  hm : 0 ≤ m ∧ m ≤ i
  sum : sumL la ≤ sumA (l.take i)
  len : la.length ≤ i

theorem putL_len (E M : Int) (l : List Ent) (k : List UInt8) (d : D) : (putL E M l k d).length ≤ l.length + 1 := by
  obtain ⟨r, hr⟩ := evL_prefix E M ((k, d) :: woL l k).length ((k, d) :: woL l k)
  have h1 := congrArg List.length hr
  rw [List.length_append, List.length_cons] at h1
  have h2 := (wo_sum l k).2
  unfold putL
  rw [List.length_cons] at *
  omega
theorem keys_take (l : List Ent) {j : Nat} (h : j < l.length) : (l.map (·.1)).take (j + 1) = (l.map (·.1)).take j ++ [(l.getD j dE).1] := by
  rw [List.take_add_one]
  have : l[j]? = some (l.getD j dE) := by simp [List.getD_eq_getElem?_getD, h]
  simp only [List.getElem?_map, this]
  rfl
theorem getR_len (l : List Ent) (k : List UInt8) : (getR l k).length ≤ l.length := by
  unfold getR
  cases hg : getL l k with
  | none => exact Nat.le_refl _
  | some v =>
    have := wo_some hg
    simp only [List.length_cons]
    omega

abbrev refO (la : List Ent) (E0 S0 h m : Int) : Nat × Own := (8, .var (refC (.sl 2 la.length (entF la)) (max E0 0) (max S0 0) h m))
abbrev plF (l : List ActV) (i : Nat) : Fr := [(2, .sl 3 l.length (actF l)), (7, .pv 9000 0), (8, .pv 8 0), (9, .i .i64 i)]

theorem rgot_some {l : List Ent} {k : List UInt8} {E M h m : Int} {v : D} (hg : getL l k = some v) : rgot l k E M h m = .tu [.ag (refC (rowE (getR l k)) E M (h + 1) m), nrm v, .b true] := by
  unfold rgot
  rw [hg]
theorem rgot_none {l : List Ent} {k : List UInt8} {E M h m : Int} (hg : getL l k = none) : rgot l k E M h m = .tu [.ag (refC (rowE (getR l k)) E M h (m + 1)), .nilS, .b false] := by
  unfold rgot getR
  rw [hg]

set_option maxRecDepth 100000 in
set_option maxHeartbeats 16000000 in
theorem lruPlays_ctr (E0 S0 : Int) (l : List ActV) (hl : ActsOk l) (hE0 : -9223372036854775808 ≤ E0 ∧ E0 < 9223372036854775808) (hS0 : -9223372036854775808 ≤ S0 ∧ S0 < 9223372036854775808) :
    Ctr Try.prog 4 [.i .i64 E0, .i .i64 S0, .sl 3 l.length (actF l)] (.b true) := by
  have hmu := much_ctr l hl
  have hrn := rnew_ctr E0 S0
  unfold rowE at hrn
  refine r_fun Try.func4 rfl Try.ntmps4 Try.results4 rfl rfl fun X hL hX => ?_
  cases hm : muchB l with
  | true =>
    rw [hm] at hmu
    repeat' (first
      | refine r_call (f := 6) rfl rfl Try.call6 rfl hmu ?_ | refine r_call (f := 7) rfl rfl Try.call7 rfl live_ctr ?_
      | with_reducible refine t_seq ?_ | with_reducible refine t_region ?_ | with_reducible refine c_nil ?_ | with_reducible refine n_then ?_
      | with_reducible refine t_ret ?_ | with_reducible refine t_skip ?_ | with_reducible refine t_exit ?_ | with_reducible refine t_block ?_
      | with_reducible refine n_block ?_ | with_reducible refine e_then ?_ | with_reducible refine x_then ?_ | with_reducible refine x_block ?_ | with_reducible refine t_draw ?_
      | refine r_val rfl rfl True.intro ?_ | refine r_gskip rfl rfl rfl ?_ | refine r_gskip2 rfl rfl rfl ?_ | refine r_gval rfl rfl rfl rfl True.intro ?_
      | refine t_true rfl ?_ | refine t_false rfl ?_
      | ((first | refine t_cond_d rfl (fun _ => ?_) (fun _ => ?_) | refine t_cond_i rfl (fun _ => ?_) (fun _ => ?_) | refine t_cond_j rfl (fun _ => ?_) (fun _ => ?_) | refine t_cond_s rfl (fun _ => ?_) (fun _ => ?_) | refine t_cond_n rfl (fun _ => ?_) (fun _ => ?_) | refine t_cond rfl (fun _ => ?_) (fun _ => ?_) | refine c_split_d rfl rfl (fun _ => ?_) (fun _ => ?_) | refine c_split_i rfl rfl (fun _ => ?_) (fun _ => ?_) | refine c_split_j rfl rfl (fun _ => ?_) (fun _ => ?_) | refine c_split_s rfl rfl (fun _ => ?_) (fun _ => ?_) | refine c_split_n rfl rfl (fun _ => ?_) (fun _ => ?_)) <;> try (first | contradiction | (exfalso; omega)))
      | refine r_val rfl rfl (by (first | omega | exact Nat.le_of_ble_eq_true rfl | (simp_all; done) | (simp_all; omega) | ((repeat' refine And.intro ?_ ?_) <;> first | omega | rfl | exact Nat.le_refl _ | exact Nat.le_of_ble_eq_true rfl | exact bytesF_one _ | (simp_all; done) | (simp_all; omega)))) ?_ | refine r_gval rfl rfl rfl rfl (by (first | omega | exact Nat.le_of_ble_eq_true rfl | (simp_all; done) | (simp_all; omega) | ((repeat' refine And.intro ?_ ?_) <;> first | omega | rfl | exact Nat.le_refl _ | exact Nat.le_of_ble_eq_true rfl | exact bytesF_one _ | (simp_all; done) | (simp_all; omega)))) ?_
      | refine r_obj rfl rfl (by (first | omega | exact Nat.le_of_ble_eq_true rfl | (simp_all; done) | (simp_all; omega) | ((repeat' refine And.intro ?_ ?_) <;> first | omega | rfl | exact Nat.le_refl _ | exact Nat.le_of_ble_eq_true rfl | exact bytesF_one _ | (simp_all; done) | (simp_all; omega)))) ?_ | refine r_sto rfl (by (first | omega | exact Nat.le_of_ble_eq_true rfl | (simp_all; done) | (simp_all; omega) | ((repeat' refine And.intro ?_ ?_) <;> first | omega | rfl | exact Nat.le_refl _ | exact Nat.le_of_ble_eq_true rfl | exact bytesF_one _ | (simp_all; done) | (simp_all; omega)))) ?_ | refine r_gobj rfl rfl rfl rfl (by (first | omega | exact Nat.le_of_ble_eq_true rfl | (simp_all; done) | (simp_all; omega) | ((repeat' refine And.intro ?_ ?_) <;> first | omega | rfl | exact Nat.le_refl _ | exact Nat.le_of_ble_eq_true rfl | exact bytesF_one _ | (simp_all; done) | (simp_all; omega)))) ?_
      | refine e_hit rfl ?_ | refine e_miss rfl ?_
      | refine ⟨by kernel_rfl, ?_⟩ | refine x_end rfl rfl | refine n_end rfl rfl | ((with_reducible refine c_grd ?_); (fail_if_success (refine c_lit true rfl rfl rfl ?_)); (fail_if_success (refine c_lit false rfl rfl rfl ?_)); refine c_split rfl rfl (fun _ => ?_) (fun _ => ?_)))
  | false =>
    rw [hm] at hmu
    obtain ⟨hl60, hs2000⟩ : l.length ≤ 60 ∧ sumA l ≤ 2000 := by
      unfold muchB at hm
      rw [decide_eq_false_iff_not] at hm
      omega
    obtain ⟨g0, c0, H0⟩ := new_all E0 S0
    have w0 := H0.wf
    repeat' (first
      | refine r_call (f := 6) rfl rfl Try.call6 rfl hmu ?_ | refine r_newC (own := []) (g' := g0) rfl w0 rfl rfl Try.call8 rfl rfl c0 ?_ | refine r_call (f := 13) rfl rfl Try.call13 rfl hrn ?_ | refine r_objL (g := g0) rfl rfl rfl (by (first | omega | exact Nat.le_of_ble_eq_true rfl | (simp_all; done) | (simp_all; omega) | ((repeat' refine And.intro ?_ ?_) <;> first | omega | rfl | exact Nat.le_refl _ | exact Nat.le_of_ble_eq_true rfl | exact bytesF_one _ | (simp_all; done) | (simp_all; omega)))) ?_
      | with_reducible refine t_seq ?_ | with_reducible refine t_region ?_ | with_reducible refine c_nil ?_ | with_reducible refine n_then ?_
      | with_reducible refine t_ret ?_ | with_reducible refine t_skip ?_ | with_reducible refine t_exit ?_ | with_reducible refine t_block ?_
      | with_reducible refine n_block ?_ | with_reducible refine e_then ?_ | with_reducible refine x_then ?_ | with_reducible refine x_block ?_ | with_reducible refine t_draw ?_
      | refine r_val rfl rfl True.intro ?_ | refine r_gskip rfl rfl rfl ?_ | refine r_gskip2 rfl rfl rfl ?_ | refine r_gval rfl rfl rfl rfl True.intro ?_
      | refine t_true rfl ?_ | refine t_false rfl ?_
      | ((first | refine t_cond_d rfl (fun _ => ?_) (fun _ => ?_) | refine t_cond_i rfl (fun _ => ?_) (fun _ => ?_) | refine t_cond_j rfl (fun _ => ?_) (fun _ => ?_) | refine t_cond_s rfl (fun _ => ?_) (fun _ => ?_) | refine t_cond_n rfl (fun _ => ?_) (fun _ => ?_) | refine t_cond rfl (fun _ => ?_) (fun _ => ?_) | refine c_split_d rfl rfl (fun _ => ?_) (fun _ => ?_) | refine c_split_i rfl rfl (fun _ => ?_) (fun _ => ?_) | refine c_split_j rfl rfl (fun _ => ?_) (fun _ => ?_) | refine c_split_s rfl rfl (fun _ => ?_) (fun _ => ?_) | refine c_split_n rfl rfl (fun _ => ?_) (fun _ => ?_)) <;> try (first | contradiction | (exfalso; omega)))
      | refine r_val rfl rfl (by (first | omega | exact Nat.le_of_ble_eq_true rfl | (simp_all; done) | (simp_all; omega) | ((repeat' refine And.intro ?_ ?_) <;> first | omega | rfl | exact Nat.le_refl _ | exact Nat.le_of_ble_eq_true rfl | exact bytesF_one _ | (simp_all; done) | (simp_all; omega)))) ?_ | refine r_gval rfl rfl rfl rfl (by (first | omega | exact Nat.le_of_ble_eq_true rfl | (simp_all; done) | (simp_all; omega) | ((repeat' refine And.intro ?_ ?_) <;> first | omega | rfl | exact Nat.le_refl _ | exact Nat.le_of_ble_eq_true rfl | exact bytesF_one _ | (simp_all; done) | (simp_all; omega)))) ?_
      | refine r_obj rfl rfl (by (first | omega | exact Nat.le_of_ble_eq_true rfl | (simp_all; done) | (simp_all; omega) | ((repeat' refine And.intro ?_ ?_) <;> first | omega | rfl | exact Nat.le_refl _ | exact Nat.le_of_ble_eq_true rfl | exact bytesF_one _ | (simp_all; done) | (simp_all; omega)))) ?_ | refine r_sto rfl (by (first | omega | exact Nat.le_of_ble_eq_true rfl | (simp_all; done) | (simp_all; omega) | ((repeat' refine And.intro ?_ ?_) <;> first | omega | rfl | exact Nat.le_refl _ | exact Nat.le_of_ble_eq_true rfl | exact bytesF_one _ | (simp_all; done) | (simp_all; omega)))) ?_ | refine r_gobj rfl rfl rfl rfl (by (first | omega | exact Nat.le_of_ble_eq_true rfl | (simp_all; done) | (simp_all; omega) | ((repeat' refine And.intro ?_ ?_) <;> first | omega | rfl | exact Nat.le_refl _ | exact Nat.le_of_ble_eq_true rfl | exact bytesF_one _ | (simp_all; done) | (simp_all; omega)))) ?_
      | refine e_hit rfl ?_ | refine e_miss rfl ?_
      | refine ⟨by kernel_rfl, ?_⟩ | ((with_reducible refine c_grd ?_); (fail_if_success (refine c_lit true rfl rfl rfl ?_)); (fail_if_success (refine c_lit false rfl rfl rfl ?_)); refine c_split rfl rfl (fun _ => ?_) (fun _ => ?_)))
    refine T.loop hL (fun x : Nat × Rg × List Ent × Int × Int => plF l x.1) (fun x => [refO x.2.2.1 E0 S0 x.2.2.2.1 x.2.2.2.2] ++ objs x.2.1) (fun x => PlayI l E0 S0 x.1 x.2.1 x.2.2.1 x.2.2.2.1 x.2.2.2.2) (fun x => l.length - x.1) (0, g0, [], 0, 0)
      (⟨H0, by omega, by omega, by omega, by simp [sumL], by simp⟩ : PlayI l E0 S0 0 g0 [] 0 0)
      ⟨⟨rfl, rfl, rfl, rfl, trivial⟩, leOw_C (own2 := [_]) rfl ⟨rfl, trivial⟩, okAll_b (ks := [9000, 8]) w0 (fun k hk => hk) rfl, fun k hk => by rw [hX] at hk; simp at hk⟩ ?_
    rintro ⟨i, g, la, h, m⟩ ⟨H, hi, hh, hm', hsum, hlen⟩
    dsimp only at H hi hh hm' hsum hlen ⊢
    have w := H.wf
    by_cases hil : i < l.length
    · have hA := hl.ok (i : Int).toNat
      have hst := sumA_take hil
      have hsz : (l.getD i dAct).sz = (l.getD (i : Int).toNat dAct).key.length + (l.getD (i : Int).toNat dAct).len := by rw [Int.toNat_natCast]; rfl
      have hle := sumA_le l (i + 1)
      have hby := hA.by'
      have hkl := hA.k
      have hbl := hA.l
      by_cases hd0 : (l.getD (i : Int).toNat dAct).dd = 0
      · have lb1 := getR_len la (l.getD (i : Int).toNat dAct).key
        have lb2 := getR_sum la (l.getD (i : Int).toNat dAct).key
        have hrg := rget_ctr la (l.getD (i : Int).toNat dAct).key (max E0 0) (max S0 0) h m (by omega) (by omega) (by omega)
        unfold rowE at hrg
        cases hgv : getL la (l.getD (i : Int).toNat dAct).key with
        | none =>
          obtain ⟨g2, c2, H2, n2⟩ := get_none H hgv (by omega) (by omega)
          rw [rgot_none hgv] at hrg
          unfold rowE at hrg
          have w2 := H2.wf
          have cl := len_all H2
          have cs := size_all H2
          have cc := counts_all H2
          have ck := keys_all H2 (by omega)
          have hrs := rsize_ctr ((getR la (l.getD (i : Int).toNat dAct).key)) (max E0 0) (max S0 0) (h) (m + 1) (by omega) (by omega)
          have hss := same_ctr (((getR la (l.getD (i : Int).toNat dAct).key)).map (·.1)) (((getR la (l.getD (i : Int).toNat dAct).key)).map (·.1)) _ _ (kyF (((getR la (l.getD (i : Int).toNat dAct).key)).map (·.1))) (kyF (((getR la (l.getD (i : Int).toNat dAct).key)).map (·.1))) rfl rfl (fun _ _ => rfl) (fun _ _ => rfl) (by rw [List.length_map]; omega) (by rw [List.length_map]; omega)
          rw [decide_eq_true rfl] at hss
          have hml : (((getR la (l.getD (i : Int).toNat dAct).key)).map (·.1)).length = ((getR la (l.getD (i : Int).toNat dAct).key)).length := List.length_map ..
          unfold rowE at hrs
          repeat' (first
            | refine r_lendC (f := 10) (g := g) (g' := g2) rfl n2 w w2 rfl rfl Try.call10 rfl rfl c2 ?_ | refine r_call (f := 14) rfl rfl Try.call14 rfl hrg ?_ | refine r_objL rfl rfl rfl (by first | omega | exact ⟨rfl, hby⟩ | exact ⟨rfl, hvb⟩ | exact Nat.le_of_ble_eq_true rfl | ((repeat' refine And.intro ?_ ?_) <;> first | omega | rfl | trivial | exact Nat.le_refl _ | exact Nat.le_of_ble_eq_true rfl)) ?_
            | with_reducible refine t_seq ?_ | with_reducible refine t_region ?_ | with_reducible refine c_nil ?_ | with_reducible refine n_then ?_
            | with_reducible refine t_ret ?_ | with_reducible refine t_skip ?_ | with_reducible refine t_exit ?_ | with_reducible refine t_block ?_
            | with_reducible refine n_block ?_ | with_reducible refine e_then ?_ | with_reducible refine x_then ?_ | with_reducible refine x_block ?_ | with_reducible refine t_draw ?_
            | refine r_val rfl rfl True.intro ?_ | refine r_gskip rfl rfl rfl ?_ | refine r_gskip2 rfl rfl rfl ?_ | refine r_gval rfl rfl rfl rfl True.intro ?_
            | refine t_true rfl ?_ | refine t_false rfl ?_
            | ((first | refine t_cond_d rfl (fun _ => ?_) (fun _ => ?_) | refine t_cond_i rfl (fun _ => ?_) (fun _ => ?_) | refine t_cond_j rfl (fun _ => ?_) (fun _ => ?_) | refine t_cond_s rfl (fun _ => ?_) (fun _ => ?_) | refine t_cond_n rfl (fun _ => ?_) (fun _ => ?_) | refine t_cond rfl (fun _ => ?_) (fun _ => ?_) | refine c_split_d rfl rfl (fun _ => ?_) (fun _ => ?_) | refine c_split_i rfl rfl (fun _ => ?_) (fun _ => ?_) | refine c_split_j rfl rfl (fun _ => ?_) (fun _ => ?_) | refine c_split_s rfl rfl (fun _ => ?_) (fun _ => ?_) | refine c_split_n rfl rfl (fun _ => ?_) (fun _ => ?_)) <;> try (first | contradiction | (exfalso; omega)))
            | refine r_val rfl rfl (by (first | omega | exact ⟨rfl, hby⟩ | exact ⟨rfl, hvb⟩ | exact Nat.le_of_ble_eq_true rfl | ((repeat' refine And.intro ?_ ?_) <;> first | omega | rfl | trivial | exact Nat.le_refl _ | exact Nat.le_of_ble_eq_true rfl))) ?_ | refine r_gval rfl rfl rfl rfl (by (first | omega | exact ⟨rfl, hby⟩ | exact ⟨rfl, hvb⟩ | exact Nat.le_of_ble_eq_true rfl | ((repeat' refine And.intro ?_ ?_) <;> first | omega | rfl | trivial | exact Nat.le_refl _ | exact Nat.le_of_ble_eq_true rfl))) ?_
            | refine r_obj rfl rfl (by (first | omega | exact ⟨rfl, hby⟩ | exact ⟨rfl, hvb⟩ | exact Nat.le_of_ble_eq_true rfl | ((repeat' refine And.intro ?_ ?_) <;> first | omega | rfl | trivial | exact Nat.le_refl _ | exact Nat.le_of_ble_eq_true rfl))) ?_ | refine r_sto rfl (by (first | omega | exact ⟨rfl, hby⟩ | exact ⟨rfl, hvb⟩ | exact Nat.le_of_ble_eq_true rfl | ((repeat' refine And.intro ?_ ?_) <;> first | omega | rfl | trivial | exact Nat.le_refl _ | exact Nat.le_of_ble_eq_true rfl))) ?_ | refine r_gobj rfl rfl rfl rfl (by (first | omega | exact ⟨rfl, hby⟩ | exact ⟨rfl, hvb⟩ | exact Nat.le_of_ble_eq_true rfl | ((repeat' refine And.intro ?_ ?_) <;> first | omega | rfl | trivial | exact Nat.le_refl _ | exact Nat.le_of_ble_eq_true rfl))) ?_
            | refine e_hit rfl ?_ | refine e_miss rfl ?_
            | refine ⟨by kernel_rfl, ?_⟩ | refine x_end rfl ?_ | refine n_end rfl ?_ | ((with_reducible refine c_grd ?_); (fail_if_success (refine c_lit true rfl rfl rfl ?_)); (fail_if_success (refine c_lit false rfl rfl rfl ?_)); refine c_split rfl rfl (fun _ => ?_) (fun _ => ?_)))
          all_goals first | (exfalso; rename_i hz; simp at hz; done) | skip
          refine T.adopt 18 18 9 1 (kyF []) rfl ((look_lowC rfl).trans rfl) ?_
          refine T.loop hL (fun j : Nat => (18, .gs 18 1 ((((getR la (l.getD (i : Int).toNat dAct).key)).map (·.1)).take j).length (kyF ((((getR la (l.getD (i : Int).toNat dAct).key)).map (·.1)).take j))) :: (19, .i .i64 j) :: plF l i) (fun j => [(18, .row 9 1 ((((getR la (l.getD (i : Int).toNat dAct).key)).map (·.1)).take j).length), refO ((getR la (l.getD (i : Int).toNat dAct).key)) E0 S0 (h) (m + 1)] ++ objs g2) (fun j => j ≤ ((getR la (l.getD (i : Int).toNat dAct).key)).length) (fun j => ((getR la (l.getD (i : Int).toNat dAct).key)).length - j) 0 (Nat.zero_le _)
            ⟨⟨by simp only [List.take_zero]; rfl, rfl, rfl, rfl, rfl, rfl, trivial⟩, leOw_C (own2 := [_, _]) rfl ⟨by simp only [List.take_zero]; rfl, rfl, trivial⟩, okAll_b (ks := [9000, 18, 8]) w2 (fun k hk => hk) rfl, fun k hk => by rw [hX] at hk; simp at hk⟩ ?_
          intro j hj
          by_cases hjl : j < ((getR la (l.getD (i : Int).toNat dAct).key)).length
          · have htl : ((((getR la (l.getD (i : Int).toNat dAct).key)).map (·.1)).take j).length = j := by rw [List.length_take, hml]; omega
            have hts : (((getR la (l.getD (i : Int).toNat dAct).key)).map (·.1)).take (j + 1) = (((getR la (l.getD (i : Int).toNat dAct).key)).map (·.1)).take j ++ [(((getR la (l.getD (i : Int).toNat dAct).key)).getD (j : Int).toNat dE).1] := by
              rw [Int.toNat_natCast]
              exact keys_take _ hjl
            have htl2 : ((((getR la (l.getD (i : Int).toNat dAct).key)).map (·.1)).take (j + 1)).length = ((((getR la (l.getD (i : Int).toNat dAct).key)).map (·.1)).take j).length + 1 := by rw [hts]; simp
            repeat' (first
              | refine r_objL rfl rfl rfl (by first | omega | exact ⟨rfl, hby⟩ | exact ⟨rfl, hvb⟩ | exact Nat.le_of_ble_eq_true rfl | ((repeat' refine And.intro ?_ ?_) <;> first | omega | rfl | trivial | exact Nat.le_refl _ | exact Nat.le_of_ble_eq_true rfl)) ?_
              | with_reducible refine t_seq ?_ | with_reducible refine t_region ?_ | with_reducible refine c_nil ?_ | with_reducible refine n_then ?_
              | with_reducible refine t_ret ?_ | with_reducible refine t_skip ?_ | with_reducible refine t_exit ?_ | with_reducible refine t_block ?_
              | with_reducible refine n_block ?_ | with_reducible refine e_then ?_ | with_reducible refine x_then ?_ | with_reducible refine x_block ?_ | with_reducible refine t_draw ?_
              | refine r_val rfl rfl True.intro ?_ | refine r_gskip rfl rfl rfl ?_ | refine r_gskip2 rfl rfl rfl ?_ | refine r_gval rfl rfl rfl rfl True.intro ?_
              | refine t_true rfl ?_ | refine t_false rfl ?_
              | ((first | refine t_cond_d rfl (fun _ => ?_) (fun _ => ?_) | refine t_cond_i rfl (fun _ => ?_) (fun _ => ?_) | refine t_cond_j rfl (fun _ => ?_) (fun _ => ?_) | refine t_cond_s rfl (fun _ => ?_) (fun _ => ?_) | refine t_cond_n rfl (fun _ => ?_) (fun _ => ?_) | refine t_cond rfl (fun _ => ?_) (fun _ => ?_) | refine c_split_d rfl rfl (fun _ => ?_) (fun _ => ?_) | refine c_split_i rfl rfl (fun _ => ?_) (fun _ => ?_) | refine c_split_j rfl rfl (fun _ => ?_) (fun _ => ?_) | refine c_split_s rfl rfl (fun _ => ?_) (fun _ => ?_) | refine c_split_n rfl rfl (fun _ => ?_) (fun _ => ?_)) <;> try (first | contradiction | (exfalso; omega)))
              | refine r_val rfl rfl (by (first | omega | exact ⟨rfl, hby⟩ | exact ⟨rfl, hvb⟩ | exact Nat.le_of_ble_eq_true rfl | ((repeat' refine And.intro ?_ ?_) <;> first | omega | rfl | trivial | exact Nat.le_refl _ | exact Nat.le_of_ble_eq_true rfl))) ?_ | refine r_gval rfl rfl rfl rfl (by (first | omega | exact ⟨rfl, hby⟩ | exact ⟨rfl, hvb⟩ | exact Nat.le_of_ble_eq_true rfl | ((repeat' refine And.intro ?_ ?_) <;> first | omega | rfl | trivial | exact Nat.le_refl _ | exact Nat.le_of_ble_eq_true rfl))) ?_
              | refine r_obj rfl rfl (by (first | omega | exact ⟨rfl, hby⟩ | exact ⟨rfl, hvb⟩ | exact Nat.le_of_ble_eq_true rfl | ((repeat' refine And.intro ?_ ?_) <;> first | omega | rfl | trivial | exact Nat.le_refl _ | exact Nat.le_of_ble_eq_true rfl))) ?_ | refine r_sto rfl (by (first | omega | exact ⟨rfl, hby⟩ | exact ⟨rfl, hvb⟩ | exact Nat.le_of_ble_eq_true rfl | ((repeat' refine And.intro ?_ ?_) <;> first | omega | rfl | trivial | exact Nat.le_refl _ | exact Nat.le_of_ble_eq_true rfl))) ?_ | refine r_gobj rfl rfl rfl rfl (by (first | omega | exact ⟨rfl, hby⟩ | exact ⟨rfl, hvb⟩ | exact Nat.le_of_ble_eq_true rfl | ((repeat' refine And.intro ?_ ?_) <;> first | omega | rfl | trivial | exact Nat.le_refl _ | exact Nat.le_of_ble_eq_true rfl))) ?_
              | refine e_hit rfl ?_ | refine e_miss rfl ?_
              | refine ⟨by kernel_rfl, ?_⟩ | ((with_reducible refine c_grd ?_); (fail_if_success (refine c_lit true rfl rfl rfl ?_)); (fail_if_success (refine c_lit false rfl rfl rfl ?_)); refine c_split rfl rfl (fun _ => ?_) (fun _ => ?_)))
            all_goals exact ⟨j + 1, by omega, by omega, ⟨ky_snoc 18 _ _ _ (((getR la (l.getD (i : Int).toNat dAct).key)).getD (j : Int).toNat dE).1 _ rfl rfl hts, congrArg (D.i .i64) (by omega), rfl, rfl, rfl, rfl, trivial⟩, leOw_C (own2 := [_, _]) rfl ⟨by rw [htl2]; rfl, rfl, trivial⟩, okAll_b (ks := [9000, 18, 8]) w2 (fun k hk => hk) rfl, fun k hk => by rw [hX] at hk; simp at hk⟩
          · rw [List.take_of_length_le (show (((getR la (l.getD (i : Int).toNat dAct).key)).map (·.1)).length ≤ j by rw [hml]; omega)]
            repeat' (first
              | refine r_lendCR (f := 17) (g := g2) rfl w2 rfl rfl Try.call17 rfl rfl cc ?_ | refine r_lendCR (f := 19) (g := g2) rfl w2 rfl rfl Try.call19 rfl rfl ck ?_ | refine r_call (f := 18) rfl rfl Try.call18 rfl hss ?_ | refine r_glendCR (f := 11) (g := g2) rfl w2 rfl rfl rfl rfl Try.call11 rfl rfl cl ?_ | refine r_glendCR (f := 12) (g := g2) rfl w2 rfl rfl rfl rfl Try.call12 rfl rfl cs ?_ | refine r_gcall (f := 20) rfl rfl rfl rfl Try.call20 rfl hrs ?_ | refine ⟨flowOk_col (by kernel_rfl), ?_⟩
              | with_reducible refine t_seq ?_ | with_reducible refine t_region ?_ | with_reducible refine c_nil ?_ | with_reducible refine n_then ?_
              | with_reducible refine t_ret ?_ | with_reducible refine t_skip ?_ | with_reducible refine t_exit ?_ | with_reducible refine t_block ?_
              | with_reducible refine n_block ?_ | with_reducible refine e_then ?_ | with_reducible refine x_then ?_ | with_reducible refine x_block ?_ | with_reducible refine t_draw ?_
              | refine r_val rfl rfl True.intro ?_ | refine r_gskip rfl rfl rfl ?_ | refine r_gskip2 rfl rfl rfl ?_ | refine r_gval rfl rfl rfl rfl True.intro ?_
              | refine t_true rfl ?_ | refine t_false rfl ?_
              | ((first | refine t_cond_d rfl (fun _ => ?_) (fun _ => ?_) | refine t_cond_i rfl (fun _ => ?_) (fun _ => ?_) | refine t_cond_j rfl (fun _ => ?_) (fun _ => ?_) | refine t_cond_s rfl (fun _ => ?_) (fun _ => ?_) | refine t_cond_n rfl (fun _ => ?_) (fun _ => ?_) | refine t_cond rfl (fun _ => ?_) (fun _ => ?_) | refine c_split_d rfl rfl (fun _ => ?_) (fun _ => ?_) | refine c_split_i rfl rfl (fun _ => ?_) (fun _ => ?_) | refine c_split_j rfl rfl (fun _ => ?_) (fun _ => ?_) | refine c_split_s rfl rfl (fun _ => ?_) (fun _ => ?_) | refine c_split_n rfl rfl (fun _ => ?_) (fun _ => ?_)) <;> try (first | contradiction | (exfalso; omega)))
              | refine r_val rfl rfl (by (first | omega | exact ⟨rfl, hby⟩ | exact ⟨rfl, hvb⟩ | exact Nat.le_of_ble_eq_true rfl | ((repeat' refine And.intro ?_ ?_) <;> first | omega | rfl | trivial | exact Nat.le_refl _ | exact Nat.le_of_ble_eq_true rfl))) ?_ | refine r_gval rfl rfl rfl rfl (by (first | omega | exact ⟨rfl, hby⟩ | exact ⟨rfl, hvb⟩ | exact Nat.le_of_ble_eq_true rfl | ((repeat' refine And.intro ?_ ?_) <;> first | omega | rfl | trivial | exact Nat.le_refl _ | exact Nat.le_of_ble_eq_true rfl))) ?_
              | refine r_obj rfl rfl (by (first | omega | exact ⟨rfl, hby⟩ | exact ⟨rfl, hvb⟩ | exact Nat.le_of_ble_eq_true rfl | ((repeat' refine And.intro ?_ ?_) <;> first | omega | rfl | trivial | exact Nat.le_refl _ | exact Nat.le_of_ble_eq_true rfl))) ?_ | refine r_sto rfl (by (first | omega | exact ⟨rfl, hby⟩ | exact ⟨rfl, hvb⟩ | exact Nat.le_of_ble_eq_true rfl | ((repeat' refine And.intro ?_ ?_) <;> first | omega | rfl | trivial | exact Nat.le_refl _ | exact Nat.le_of_ble_eq_true rfl))) ?_ | refine r_gobj rfl rfl rfl rfl (by (first | omega | exact ⟨rfl, hby⟩ | exact ⟨rfl, hvb⟩ | exact Nat.le_of_ble_eq_true rfl | ((repeat' refine And.intro ?_ ?_) <;> first | omega | rfl | trivial | exact Nat.le_refl _ | exact Nat.le_of_ble_eq_true rfl))) ?_
              | refine e_hit rfl ?_ | refine e_miss rfl ?_
              | refine ⟨by kernel_rfl, ?_⟩ | ((with_reducible refine c_grd ?_); (fail_if_success (refine c_lit true rfl rfl rfl ?_)); (fail_if_success (refine c_lit false rfl rfl rfl ?_)); refine c_split rfl rfl (fun _ => ?_) (fun _ => ?_)))
            all_goals exact ⟨(i + 1, g2, (getR la (l.getD (i : Int).toNat dAct).key), h, m + 1), (⟨H2, by omega, by omega, by omega, by omega, by omega⟩ : PlayI l E0 S0 (i + 1) g2 ((getR la (l.getD (i : Int).toNat dAct).key)) (h) (m + 1)), by dsimp only; omega, ⟨rfl, rfl, rfl, congrArg (D.i .i64) (by omega), trivial⟩, leOw_C (own2 := [_]) rfl ⟨rfl, trivial⟩, okAll_b (ks := [9000, 8]) w2 (fun k hk => hk) rfl, fun k hk => by rw [hX] at hk; simp at hk⟩
        | some v =>
          obtain ⟨g2, c2, H2, n2, o2⟩ := get_some H hgv (by omega) (by omega)
          rw [rgot_some hgv] at hrg
          unfold rowE at hrg
          have hvi := H.isB _ (getL_mem hgv)
          obtain ⟨vn, vf, rfl⟩ : ∃ n f, v = .sl 1 n f := ⟨_, _, hvi.1⟩
          have hvb : ∀ j, j < vn → ∃ n, vf j = [.i .u8 n] := hvi.2
          rw [show nrm (.sl 1 vn vf) = .sl 1 vn vf from rfl] at hrg
          have w2 := H2.wf
          have cl := len_all H2
          have cs := size_all H2
          have cc := counts_all H2
          have ck := keys_all H2 (by omega)
          have hrs := rsize_ctr ((getR la (l.getD (i : Int).toNat dAct).key)) (max E0 0) (max S0 0) (h + 1) (m) (by omega) (by omega)
          have hss := same_ctr (((getR la (l.getD (i : Int).toNat dAct).key)).map (·.1)) (((getR la (l.getD (i : Int).toNat dAct).key)).map (·.1)) _ _ (kyF (((getR la (l.getD (i : Int).toNat dAct).key)).map (·.1))) (kyF (((getR la (l.getD (i : Int).toNat dAct).key)).map (·.1))) rfl rfl (fun _ _ => rfl) (fun _ _ => rfl) (by rw [List.length_map]; omega) (by rw [List.length_map]; omega)
          rw [decide_eq_true rfl] at hss
          have hml : (((getR la (l.getD (i : Int).toNat dAct).key)).map (·.1)).length = ((getR la (l.getD (i : Int).toNat dAct).key)).length := List.length_map ..
          unfold rowE at hrs
          repeat' (first
            | refine r_lendC (f := 10) (g := g) (g' := g2) rfl n2 w w2 rfl rfl Try.call10 rfl o2 c2 ?_ | refine r_call (f := 14) rfl rfl Try.call14 rfl hrg ?_ | refine r_objL rfl rfl rfl (by first | omega | exact ⟨rfl, hby⟩ | exact ⟨rfl, hvb⟩ | exact Nat.le_of_ble_eq_true rfl | ((repeat' refine And.intro ?_ ?_) <;> first | omega | rfl | trivial | exact Nat.le_refl _ | exact Nat.le_of_ble_eq_true rfl)) ?_
            | with_reducible refine t_seq ?_ | with_reducible refine t_region ?_ | with_reducible refine c_nil ?_ | with_reducible refine n_then ?_
            | with_reducible refine t_ret ?_ | with_reducible refine t_skip ?_ | with_reducible refine t_exit ?_ | with_reducible refine t_block ?_
            | with_reducible refine n_block ?_ | with_reducible refine e_then ?_ | with_reducible refine x_then ?_ | with_reducible refine x_block ?_ | with_reducible refine t_draw ?_
            | refine r_val rfl rfl True.intro ?_ | refine r_gskip rfl rfl rfl ?_ | refine r_gskip2 rfl rfl rfl ?_ | refine r_gval rfl rfl rfl rfl True.intro ?_
            | refine t_true rfl ?_ | refine t_false rfl ?_
            | ((first | refine t_cond_d rfl (fun _ => ?_) (fun _ => ?_) | refine t_cond_i rfl (fun _ => ?_) (fun _ => ?_) | refine t_cond_j rfl (fun _ => ?_) (fun _ => ?_) | refine t_cond_s rfl (fun _ => ?_) (fun _ => ?_) | refine t_cond_n rfl (fun _ => ?_) (fun _ => ?_) | refine t_cond rfl (fun _ => ?_) (fun _ => ?_) | refine c_split_d rfl rfl (fun _ => ?_) (fun _ => ?_) | refine c_split_i rfl rfl (fun _ => ?_) (fun _ => ?_) | refine c_split_j rfl rfl (fun _ => ?_) (fun _ => ?_) | refine c_split_s rfl rfl (fun _ => ?_) (fun _ => ?_) | refine c_split_n rfl rfl (fun _ => ?_) (fun _ => ?_)) <;> try (first | contradiction | (exfalso; omega)))
            | refine r_val rfl rfl (by (first | omega | exact ⟨rfl, hby⟩ | exact ⟨rfl, hvb⟩ | exact Nat.le_of_ble_eq_true rfl | ((repeat' refine And.intro ?_ ?_) <;> first | omega | rfl | trivial | exact Nat.le_refl _ | exact Nat.le_of_ble_eq_true rfl))) ?_ | refine r_gval rfl rfl rfl rfl (by (first | omega | exact ⟨rfl, hby⟩ | exact ⟨rfl, hvb⟩ | exact Nat.le_of_ble_eq_true rfl | ((repeat' refine And.intro ?_ ?_) <;> first | omega | rfl | trivial | exact Nat.le_refl _ | exact Nat.le_of_ble_eq_true rfl))) ?_
            | refine r_obj rfl rfl (by (first | omega | exact ⟨rfl, hby⟩ | exact ⟨rfl, hvb⟩ | exact Nat.le_of_ble_eq_true rfl | ((repeat' refine And.intro ?_ ?_) <;> first | omega | rfl | trivial | exact Nat.le_refl _ | exact Nat.le_of_ble_eq_true rfl))) ?_ | refine r_sto rfl (by (first | omega | exact ⟨rfl, hby⟩ | exact ⟨rfl, hvb⟩ | exact Nat.le_of_ble_eq_true rfl | ((repeat' refine And.intro ?_ ?_) <;> first | omega | rfl | trivial | exact Nat.le_refl _ | exact Nat.le_of_ble_eq_true rfl))) ?_ | refine r_gobj rfl rfl rfl rfl (by (first | omega | exact ⟨rfl, hby⟩ | exact ⟨rfl, hvb⟩ | exact Nat.le_of_ble_eq_true rfl | ((repeat' refine And.intro ?_ ?_) <;> first | omega | rfl | trivial | exact Nat.le_refl _ | exact Nat.le_of_ble_eq_true rfl))) ?_
            | refine e_hit rfl ?_ | refine e_miss rfl ?_
            | refine ⟨by kernel_rfl, ?_⟩ | refine x_end rfl ?_ | refine n_end rfl ?_ | ((with_reducible refine c_grd ?_); (fail_if_success (refine c_lit true rfl rfl rfl ?_)); (fail_if_success (refine c_lit false rfl rfl rfl ?_)); refine c_split rfl rfl (fun _ => ?_) (fun _ => ?_)))
          all_goals first | (exfalso; rename_i hz; simp at hz; done) | skip
          refine T.adopt 18 18 9 1 (kyF []) rfl ((look_lowC rfl).trans rfl) ?_
          refine T.loop hL (fun j : Nat => (18, .gs 18 1 ((((getR la (l.getD (i : Int).toNat dAct).key)).map (·.1)).take j).length (kyF ((((getR la (l.getD (i : Int).toNat dAct).key)).map (·.1)).take j))) :: (19, .i .i64 j) :: plF l i) (fun j => [(18, .row 9 1 ((((getR la (l.getD (i : Int).toNat dAct).key)).map (·.1)).take j).length), refO ((getR la (l.getD (i : Int).toNat dAct).key)) E0 S0 (h + 1) (m)] ++ objs g2) (fun j => j ≤ ((getR la (l.getD (i : Int).toNat dAct).key)).length) (fun j => ((getR la (l.getD (i : Int).toNat dAct).key)).length - j) 0 (Nat.zero_le _)
            ⟨⟨by simp only [List.take_zero]; rfl, rfl, rfl, rfl, rfl, rfl, trivial⟩, leOw_C (own2 := [_, _]) rfl ⟨by simp only [List.take_zero]; rfl, rfl, trivial⟩, okAll_b (ks := [9000, 18, 8]) w2 (fun k hk => hk) rfl, fun k hk => by rw [hX] at hk; simp at hk⟩ ?_
          intro j hj
          by_cases hjl : j < ((getR la (l.getD (i : Int).toNat dAct).key)).length
          · have htl : ((((getR la (l.getD (i : Int).toNat dAct).key)).map (·.1)).take j).length = j := by rw [List.length_take, hml]; omega
            have hts : (((getR la (l.getD (i : Int).toNat dAct).key)).map (·.1)).take (j + 1) = (((getR la (l.getD (i : Int).toNat dAct).key)).map (·.1)).take j ++ [(((getR la (l.getD (i : Int).toNat dAct).key)).getD (j : Int).toNat dE).1] := by
              rw [Int.toNat_natCast]
              exact keys_take _ hjl
            have htl2 : ((((getR la (l.getD (i : Int).toNat dAct).key)).map (·.1)).take (j + 1)).length = ((((getR la (l.getD (i : Int).toNat dAct).key)).map (·.1)).take j).length + 1 := by rw [hts]; simp
            repeat' (first
              | refine r_objL rfl rfl rfl (by first | omega | exact ⟨rfl, hby⟩ | exact ⟨rfl, hvb⟩ | exact Nat.le_of_ble_eq_true rfl | ((repeat' refine And.intro ?_ ?_) <;> first | omega | rfl | trivial | exact Nat.le_refl _ | exact Nat.le_of_ble_eq_true rfl)) ?_
              | with_reducible refine t_seq ?_ | with_reducible refine t_region ?_ | with_reducible refine c_nil ?_ | with_reducible refine n_then ?_
              | with_reducible refine t_ret ?_ | with_reducible refine t_skip ?_ | with_reducible refine t_exit ?_ | with_reducible refine t_block ?_
              | with_reducible refine n_block ?_ | with_reducible refine e_then ?_ | with_reducible refine x_then ?_ | with_reducible refine x_block ?_ | with_reducible refine t_draw ?_
              | refine r_val rfl rfl True.intro ?_ | refine r_gskip rfl rfl rfl ?_ | refine r_gskip2 rfl rfl rfl ?_ | refine r_gval rfl rfl rfl rfl True.intro ?_
              | refine t_true rfl ?_ | refine t_false rfl ?_
              | ((first | refine t_cond_d rfl (fun _ => ?_) (fun _ => ?_) | refine t_cond_i rfl (fun _ => ?_) (fun _ => ?_) | refine t_cond_j rfl (fun _ => ?_) (fun _ => ?_) | refine t_cond_s rfl (fun _ => ?_) (fun _ => ?_) | refine t_cond_n rfl (fun _ => ?_) (fun _ => ?_) | refine t_cond rfl (fun _ => ?_) (fun _ => ?_) | refine c_split_d rfl rfl (fun _ => ?_) (fun _ => ?_) | refine c_split_i rfl rfl (fun _ => ?_) (fun _ => ?_) | refine c_split_j rfl rfl (fun _ => ?_) (fun _ => ?_) | refine c_split_s rfl rfl (fun _ => ?_) (fun _ => ?_) | refine c_split_n rfl rfl (fun _ => ?_) (fun _ => ?_)) <;> try (first | contradiction | (exfalso; omega)))
              | refine r_val rfl rfl (by (first | omega | exact ⟨rfl, hby⟩ | exact ⟨rfl, hvb⟩ | exact Nat.le_of_ble_eq_true rfl | ((repeat' refine And.intro ?_ ?_) <;> first | omega | rfl | trivial | exact Nat.le_refl _ | exact Nat.le_of_ble_eq_true rfl))) ?_ | refine r_gval rfl rfl rfl rfl (by (first | omega | exact ⟨rfl, hby⟩ | exact ⟨rfl, hvb⟩ | exact Nat.le_of_ble_eq_true rfl | ((repeat' refine And.intro ?_ ?_) <;> first | omega | rfl | trivial | exact Nat.le_refl _ | exact Nat.le_of_ble_eq_true rfl))) ?_
              | refine r_obj rfl rfl (by (first | omega | exact ⟨rfl, hby⟩ | exact ⟨rfl, hvb⟩ | exact Nat.le_of_ble_eq_true rfl | ((repeat' refine And.intro ?_ ?_) <;> first | omega | rfl | trivial | exact Nat.le_refl _ | exact Nat.le_of_ble_eq_true rfl))) ?_ | refine r_sto rfl (by (first | omega | exact ⟨rfl, hby⟩ | exact ⟨rfl, hvb⟩ | exact Nat.le_of_ble_eq_true rfl | ((repeat' refine And.intro ?_ ?_) <;> first | omega | rfl | trivial | exact Nat.le_refl _ | exact Nat.le_of_ble_eq_true rfl))) ?_ | refine r_gobj rfl rfl rfl rfl (by (first | omega | exact ⟨rfl, hby⟩ | exact ⟨rfl, hvb⟩ | exact Nat.le_of_ble_eq_true rfl | ((repeat' refine And.intro ?_ ?_) <;> first | omega | rfl | trivial | exact Nat.le_refl _ | exact Nat.le_of_ble_eq_true rfl))) ?_
              | refine e_hit rfl ?_ | refine e_miss rfl ?_
              | refine ⟨by kernel_rfl, ?_⟩ | ((with_reducible refine c_grd ?_); (fail_if_success (refine c_lit true rfl rfl rfl ?_)); (fail_if_success (refine c_lit false rfl rfl rfl ?_)); refine c_split rfl rfl (fun _ => ?_) (fun _ => ?_)))
            all_goals exact ⟨j + 1, by omega, by omega, ⟨ky_snoc 18 _ _ _ (((getR la (l.getD (i : Int).toNat dAct).key)).getD (j : Int).toNat dE).1 _ rfl rfl hts, congrArg (D.i .i64) (by omega), rfl, rfl, rfl, rfl, trivial⟩, leOw_C (own2 := [_, _]) rfl ⟨by rw [htl2]; rfl, rfl, trivial⟩, okAll_b (ks := [9000, 18, 8]) w2 (fun k hk => hk) rfl, fun k hk => by rw [hX] at hk; simp at hk⟩
          · rw [List.take_of_length_le (show (((getR la (l.getD (i : Int).toNat dAct).key)).map (·.1)).length ≤ j by rw [hml]; omega)]
            repeat' (first
              | refine r_lendCR (f := 17) (g := g2) rfl w2 rfl rfl Try.call17 rfl rfl cc ?_ | refine r_lendCR (f := 19) (g := g2) rfl w2 rfl rfl Try.call19 rfl rfl ck ?_ | refine r_call (f := 18) rfl rfl Try.call18 rfl hss ?_ | refine r_glendCR (f := 11) (g := g2) rfl w2 rfl rfl rfl rfl Try.call11 rfl rfl cl ?_ | refine r_glendCR (f := 12) (g := g2) rfl w2 rfl rfl rfl rfl Try.call12 rfl rfl cs ?_ | refine r_gcall (f := 20) rfl rfl rfl rfl Try.call20 rfl hrs ?_ | refine ⟨flowOk_col (by kernel_rfl), ?_⟩
              | with_reducible refine t_seq ?_ | with_reducible refine t_region ?_ | with_reducible refine c_nil ?_ | with_reducible refine n_then ?_
              | with_reducible refine t_ret ?_ | with_reducible refine t_skip ?_ | with_reducible refine t_exit ?_ | with_reducible refine t_block ?_
              | with_reducible refine n_block ?_ | with_reducible refine e_then ?_ | with_reducible refine x_then ?_ | with_reducible refine x_block ?_ | with_reducible refine t_draw ?_
              | refine r_val rfl rfl True.intro ?_ | refine r_gskip rfl rfl rfl ?_ | refine r_gskip2 rfl rfl rfl ?_ | refine r_gval rfl rfl rfl rfl True.intro ?_
              | refine t_true rfl ?_ | refine t_false rfl ?_
              | ((first | refine t_cond_d rfl (fun _ => ?_) (fun _ => ?_) | refine t_cond_i rfl (fun _ => ?_) (fun _ => ?_) | refine t_cond_j rfl (fun _ => ?_) (fun _ => ?_) | refine t_cond_s rfl (fun _ => ?_) (fun _ => ?_) | refine t_cond_n rfl (fun _ => ?_) (fun _ => ?_) | refine t_cond rfl (fun _ => ?_) (fun _ => ?_) | refine c_split_d rfl rfl (fun _ => ?_) (fun _ => ?_) | refine c_split_i rfl rfl (fun _ => ?_) (fun _ => ?_) | refine c_split_j rfl rfl (fun _ => ?_) (fun _ => ?_) | refine c_split_s rfl rfl (fun _ => ?_) (fun _ => ?_) | refine c_split_n rfl rfl (fun _ => ?_) (fun _ => ?_)) <;> try (first | contradiction | (exfalso; omega)))
              | refine r_val rfl rfl (by (first | omega | exact ⟨rfl, hby⟩ | exact ⟨rfl, hvb⟩ | exact Nat.le_of_ble_eq_true rfl | ((repeat' refine And.intro ?_ ?_) <;> first | omega | rfl | trivial | exact Nat.le_refl _ | exact Nat.le_of_ble_eq_true rfl))) ?_ | refine r_gval rfl rfl rfl rfl (by (first | omega | exact ⟨rfl, hby⟩ | exact ⟨rfl, hvb⟩ | exact Nat.le_of_ble_eq_true rfl | ((repeat' refine And.intro ?_ ?_) <;> first | omega | rfl | trivial | exact Nat.le_refl _ | exact Nat.le_of_ble_eq_true rfl))) ?_
              | refine r_obj rfl rfl (by (first | omega | exact ⟨rfl, hby⟩ | exact ⟨rfl, hvb⟩ | exact Nat.le_of_ble_eq_true rfl | ((repeat' refine And.intro ?_ ?_) <;> first | omega | rfl | trivial | exact Nat.le_refl _ | exact Nat.le_of_ble_eq_true rfl))) ?_ | refine r_sto rfl (by (first | omega | exact ⟨rfl, hby⟩ | exact ⟨rfl, hvb⟩ | exact Nat.le_of_ble_eq_true rfl | ((repeat' refine And.intro ?_ ?_) <;> first | omega | rfl | trivial | exact Nat.le_refl _ | exact Nat.le_of_ble_eq_true rfl))) ?_ | refine r_gobj rfl rfl rfl rfl (by (first | omega | exact ⟨rfl, hby⟩ | exact ⟨rfl, hvb⟩ | exact Nat.le_of_ble_eq_true rfl | ((repeat' refine And.intro ?_ ?_) <;> first | omega | rfl | trivial | exact Nat.le_refl _ | exact Nat.le_of_ble_eq_true rfl))) ?_
              | refine e_hit rfl ?_ | refine e_miss rfl ?_
              | refine ⟨by kernel_rfl, ?_⟩ | ((with_reducible refine c_grd ?_); (fail_if_success (refine c_lit true rfl rfl rfl ?_)); (fail_if_success (refine c_lit false rfl rfl rfl ?_)); refine c_split rfl rfl (fun _ => ?_) (fun _ => ?_)))
            all_goals exact ⟨(i + 1, g2, (getR la (l.getD (i : Int).toNat dAct).key), h + 1, m), (⟨H2, by omega, by omega, by omega, by omega, by omega⟩ : PlayI l E0 S0 (i + 1) g2 ((getR la (l.getD (i : Int).toNat dAct).key)) (h + 1) (m)), by dsimp only; omega, ⟨rfl, rfl, rfl, congrArg (D.i .i64) (by omega), trivial⟩, leOw_C (own2 := [_]) rfl ⟨rfl, trivial⟩, okAll_b (ks := [9000, 8]) w2 (fun k hk => hk) rfl, fun k hk => by rw [hX] at hk; simp at hk⟩
      · by_cases hd1 : (l.getD (i : Int).toNat dAct).dd = 1
        · cases hpb : putB (max E0 0) (max S0 0) (l.getD (i : Int).toNat dAct).key (l.getD (i : Int).toNat dAct).b with
          | true =>
            obtain ⟨g2, c2, H2, n2⟩ := put_t H (l.getD (i : Int).toNat dAct).key (l.getD (i : Int).toNat dAct).b hA.isB (by show sumL la + ((l.getD (i : Int).toNat dAct).key.length + (l.getD (i : Int).toNat dAct).len) ≤ 1000000; omega) (by omega) (by omega) hpb
            have lb1 := putL_len (max E0 0) (max S0 0) la (l.getD (i : Int).toNat dAct).key (l.getD (i : Int).toNat dAct).b
            have lb2 : sumL (putL (max E0 0) (max S0 0) la (l.getD (i : Int).toNat dAct).key (l.getD (i : Int).toNat dAct).b) ≤ sumL la + ((l.getD (i : Int).toNat dAct).key.length + (l.getD (i : Int).toNat dAct).len) := putL_sum ..
            have hrp := rput_yes la (l.getD (i : Int).toNat dAct).key (l.getD (i : Int).toNat dAct).len (l.getD (i : Int).toNat dAct).f (max E0 0) (max S0 0) h m hpb (by omega) (by omega) (by omega) (by omega)
            unfold rowE at hrp
            have w2 := H2.wf
            have cl := len_all H2
            have cs := size_all H2
            have cc := counts_all H2
            have ck := keys_all H2 (by omega)
            have hrs := rsize_ctr ((putL (max E0 0) (max S0 0) la (l.getD (i : Int).toNat dAct).key (l.getD (i : Int).toNat dAct).b)) (max E0 0) (max S0 0) (h) (m) (by omega) (by omega)
            have hss := same_ctr (((putL (max E0 0) (max S0 0) la (l.getD (i : Int).toNat dAct).key (l.getD (i : Int).toNat dAct).b)).map (·.1)) (((putL (max E0 0) (max S0 0) la (l.getD (i : Int).toNat dAct).key (l.getD (i : Int).toNat dAct).b)).map (·.1)) _ _ (kyF (((putL (max E0 0) (max S0 0) la (l.getD (i : Int).toNat dAct).key (l.getD (i : Int).toNat dAct).b)).map (·.1))) (kyF (((putL (max E0 0) (max S0 0) la (l.getD (i : Int).toNat dAct).key (l.getD (i : Int).toNat dAct).b)).map (·.1))) rfl rfl (fun _ _ => rfl) (fun _ _ => rfl) (by rw [List.length_map]; omega) (by rw [List.length_map]; omega)
            rw [decide_eq_true rfl] at hss
            have hml : (((putL (max E0 0) (max S0 0) la (l.getD (i : Int).toNat dAct).key (l.getD (i : Int).toNat dAct).b)).map (·.1)).length = ((putL (max E0 0) (max S0 0) la (l.getD (i : Int).toNat dAct).key (l.getD (i : Int).toNat dAct).b)).length := List.length_map ..
            unfold rowE at hrs
            repeat' (first
              | refine r_call (f := 15) rfl rfl Try.call15 rfl hrp ?_ | refine r_lendC (f := 9) (g := g) (g' := g2) rfl n2 w w2 rfl rfl Try.call9 rfl rfl c2 ?_ | refine r_objL rfl rfl rfl (by first | omega | exact ⟨rfl, hby⟩ | exact ⟨rfl, hvb⟩ | exact Nat.le_of_ble_eq_true rfl | ((repeat' refine And.intro ?_ ?_) <;> first | omega | rfl | trivial | exact Nat.le_refl _ | exact Nat.le_of_ble_eq_true rfl)) ?_
              | with_reducible refine t_seq ?_ | with_reducible refine t_region ?_ | with_reducible refine c_nil ?_ | with_reducible refine n_then ?_
              | with_reducible refine t_ret ?_ | with_reducible refine t_skip ?_ | with_reducible refine t_exit ?_ | with_reducible refine t_block ?_
              | with_reducible refine n_block ?_ | with_reducible refine e_then ?_ | with_reducible refine x_then ?_ | with_reducible refine x_block ?_ | with_reducible refine t_draw ?_
              | refine r_val rfl rfl True.intro ?_ | refine r_gskip rfl rfl rfl ?_ | refine r_gskip2 rfl rfl rfl ?_ | refine r_gval rfl rfl rfl rfl True.intro ?_
              | refine t_true rfl ?_ | refine t_false rfl ?_
              | ((first | refine t_cond_d rfl (fun _ => ?_) (fun _ => ?_) | refine t_cond_i rfl (fun _ => ?_) (fun _ => ?_) | refine t_cond_j rfl (fun _ => ?_) (fun _ => ?_) | refine t_cond_s rfl (fun _ => ?_) (fun _ => ?_) | refine t_cond_n rfl (fun _ => ?_) (fun _ => ?_) | refine t_cond rfl (fun _ => ?_) (fun _ => ?_) | refine c_split_d rfl rfl (fun _ => ?_) (fun _ => ?_) | refine c_split_i rfl rfl (fun _ => ?_) (fun _ => ?_) | refine c_split_j rfl rfl (fun _ => ?_) (fun _ => ?_) | refine c_split_s rfl rfl (fun _ => ?_) (fun _ => ?_) | refine c_split_n rfl rfl (fun _ => ?_) (fun _ => ?_)) <;> try (first | contradiction | (exfalso; omega)))
              | refine r_val rfl rfl (by (first | omega | exact ⟨rfl, hby⟩ | exact ⟨rfl, hvb⟩ | exact Nat.le_of_ble_eq_true rfl | ((repeat' refine And.intro ?_ ?_) <;> first | omega | rfl | trivial | exact Nat.le_refl _ | exact Nat.le_of_ble_eq_true rfl))) ?_ | refine r_gval rfl rfl rfl rfl (by (first | omega | exact ⟨rfl, hby⟩ | exact ⟨rfl, hvb⟩ | exact Nat.le_of_ble_eq_true rfl | ((repeat' refine And.intro ?_ ?_) <;> first | omega | rfl | trivial | exact Nat.le_refl _ | exact Nat.le_of_ble_eq_true rfl))) ?_
              | refine r_obj rfl rfl (by (first | omega | exact ⟨rfl, hby⟩ | exact ⟨rfl, hvb⟩ | exact Nat.le_of_ble_eq_true rfl | ((repeat' refine And.intro ?_ ?_) <;> first | omega | rfl | trivial | exact Nat.le_refl _ | exact Nat.le_of_ble_eq_true rfl))) ?_ | refine r_sto rfl (by (first | omega | exact ⟨rfl, hby⟩ | exact ⟨rfl, hvb⟩ | exact Nat.le_of_ble_eq_true rfl | ((repeat' refine And.intro ?_ ?_) <;> first | omega | rfl | trivial | exact Nat.le_refl _ | exact Nat.le_of_ble_eq_true rfl))) ?_ | refine r_gobj rfl rfl rfl rfl (by (first | omega | exact ⟨rfl, hby⟩ | exact ⟨rfl, hvb⟩ | exact Nat.le_of_ble_eq_true rfl | ((repeat' refine And.intro ?_ ?_) <;> first | omega | rfl | trivial | exact Nat.le_refl _ | exact Nat.le_of_ble_eq_true rfl))) ?_
              | refine e_hit rfl ?_ | refine e_miss rfl ?_
              | refine ⟨by kernel_rfl, ?_⟩ | refine x_end rfl ?_ | refine n_end rfl ?_ | ((with_reducible refine c_grd ?_); (fail_if_success (refine c_lit true rfl rfl rfl ?_)); (fail_if_success (refine c_lit false rfl rfl rfl ?_)); refine c_split rfl rfl (fun _ => ?_) (fun _ => ?_)))
            all_goals first | (exfalso; rename_i hz; simp at hz; done) | skip
            refine T.adopt 18 18 9 1 (kyF []) rfl ((look_lowC rfl).trans rfl) ?_
            refine T.loop hL (fun j : Nat => (18, .gs 18 1 ((((putL (max E0 0) (max S0 0) la (l.getD (i : Int).toNat dAct).key (l.getD (i : Int).toNat dAct).b)).map (·.1)).take j).length (kyF ((((putL (max E0 0) (max S0 0) la (l.getD (i : Int).toNat dAct).key (l.getD (i : Int).toNat dAct).b)).map (·.1)).take j))) :: (19, .i .i64 j) :: plF l i) (fun j => [(18, .row 9 1 ((((putL (max E0 0) (max S0 0) la (l.getD (i : Int).toNat dAct).key (l.getD (i : Int).toNat dAct).b)).map (·.1)).take j).length), refO ((putL (max E0 0) (max S0 0) la (l.getD (i : Int).toNat dAct).key (l.getD (i : Int).toNat dAct).b)) E0 S0 (h) (m)] ++ objs g2) (fun j => j ≤ ((putL (max E0 0) (max S0 0) la (l.getD (i : Int).toNat dAct).key (l.getD (i : Int).toNat dAct).b)).length) (fun j => ((putL (max E0 0) (max S0 0) la (l.getD (i : Int).toNat dAct).key (l.getD (i : Int).toNat dAct).b)).length - j) 0 (Nat.zero_le _)
              ⟨⟨by simp only [List.take_zero]; rfl, rfl, rfl, rfl, rfl, rfl, trivial⟩, leOw_C (own2 := [_, _]) rfl ⟨by simp only [List.take_zero]; rfl, rfl, trivial⟩, okAll_b (ks := [9000, 18, 8]) w2 (fun k hk => hk) rfl, fun k hk => by rw [hX] at hk; simp at hk⟩ ?_
            intro j hj
            by_cases hjl : j < ((putL (max E0 0) (max S0 0) la (l.getD (i : Int).toNat dAct).key (l.getD (i : Int).toNat dAct).b)).length
            · have htl : ((((putL (max E0 0) (max S0 0) la (l.getD (i : Int).toNat dAct).key (l.getD (i : Int).toNat dAct).b)).map (·.1)).take j).length = j := by rw [List.length_take, hml]; omega
              have hts : (((putL (max E0 0) (max S0 0) la (l.getD (i : Int).toNat dAct).key (l.getD (i : Int).toNat dAct).b)).map (·.1)).take (j + 1) = (((putL (max E0 0) (max S0 0) la (l.getD (i : Int).toNat dAct).key (l.getD (i : Int).toNat dAct).b)).map (·.1)).take j ++ [(((putL (max E0 0) (max S0 0) la (l.getD (i : Int).toNat dAct).key (l.getD (i : Int).toNat dAct).b)).getD (j : Int).toNat dE).1] := by
                rw [Int.toNat_natCast]
                exact keys_take _ hjl
              have htl2 : ((((putL (max E0 0) (max S0 0) la (l.getD (i : Int).toNat dAct).key (l.getD (i : Int).toNat dAct).b)).map (·.1)).take (j + 1)).length = ((((putL (max E0 0) (max S0 0) la (l.getD (i : Int).toNat dAct).key (l.getD (i : Int).toNat dAct).b)).map (·.1)).take j).length + 1 := by rw [hts]; simp
              repeat' (first
                | refine r_objL rfl rfl rfl (by first | omega | exact ⟨rfl, hby⟩ | exact ⟨rfl, hvb⟩ | exact Nat.le_of_ble_eq_true rfl | ((repeat' refine And.intro ?_ ?_) <;> first | omega | rfl | trivial | exact Nat.le_refl _ | exact Nat.le_of_ble_eq_true rfl)) ?_
                | with_reducible refine t_seq ?_ | with_reducible refine t_region ?_ | with_reducible refine c_nil ?_ | with_reducible refine n_then ?_
                | with_reducible refine t_ret ?_ | with_reducible refine t_skip ?_ | with_reducible refine t_exit ?_ | with_reducible refine t_block ?_
                | with_reducible refine n_block ?_ | with_reducible refine e_then ?_ | with_reducible refine x_then ?_ | with_reducible refine x_block ?_ | with_reducible refine t_draw ?_
                | refine r_val rfl rfl True.intro ?_ | refine r_gskip rfl rfl rfl ?_ | refine r_gskip2 rfl rfl rfl ?_ | refine r_gval rfl rfl rfl rfl True.intro ?_
                | refine t_true rfl ?_ | refine t_false rfl ?_
                | ((first | refine t_cond_d rfl (fun _ => ?_) (fun _ => ?_) | refine t_cond_i rfl (fun _ => ?_) (fun _ => ?_) | refine t_cond_j rfl (fun _ => ?_) (fun _ => ?_) | refine t_cond_s rfl (fun _ => ?_) (fun _ => ?_) | refine t_cond_n rfl (fun _ => ?_) (fun _ => ?_) | refine t_cond rfl (fun _ => ?_) (fun _ => ?_) | refine c_split_d rfl rfl (fun _ => ?_) (fun _ => ?_) | refine c_split_i rfl rfl (fun _ => ?_) (fun _ => ?_) | refine c_split_j rfl rfl (fun _ => ?_) (fun _ => ?_) | refine c_split_s rfl rfl (fun _ => ?_) (fun _ => ?_) | refine c_split_n rfl rfl (fun _ => ?_) (fun _ => ?_)) <;> try (first | contradiction | (exfalso; omega)))
                | refine r_val rfl rfl (by (first | omega | exact ⟨rfl, hby⟩ | exact ⟨rfl, hvb⟩ | exact Nat.le_of_ble_eq_true rfl | ((repeat' refine And.intro ?_ ?_) <;> first | omega | rfl | trivial | exact Nat.le_refl _ | exact Nat.le_of_ble_eq_true rfl))) ?_ | refine r_gval rfl rfl rfl rfl (by (first | omega | exact ⟨rfl, hby⟩ | exact ⟨rfl, hvb⟩ | exact Nat.le_of_ble_eq_true rfl | ((repeat' refine And.intro ?_ ?_) <;> first | omega | rfl | trivial | exact Nat.le_refl _ | exact Nat.le_of_ble_eq_true rfl))) ?_
                | refine r_obj rfl rfl (by (first | omega | exact ⟨rfl, hby⟩ | exact ⟨rfl, hvb⟩ | exact Nat.le_of_ble_eq_true rfl | ((repeat' refine And.intro ?_ ?_) <;> first | omega | rfl | trivial | exact Nat.le_refl _ | exact Nat.le_of_ble_eq_true rfl))) ?_ | refine r_sto rfl (by (first | omega | exact ⟨rfl, hby⟩ | exact ⟨rfl, hvb⟩ | exact Nat.le_of_ble_eq_true rfl | ((repeat' refine And.intro ?_ ?_) <;> first | omega | rfl | trivial | exact Nat.le_refl _ | exact Nat.le_of_ble_eq_true rfl))) ?_ | refine r_gobj rfl rfl rfl rfl (by (first | omega | exact ⟨rfl, hby⟩ | exact ⟨rfl, hvb⟩ | exact Nat.le_of_ble_eq_true rfl | ((repeat' refine And.intro ?_ ?_) <;> first | omega | rfl | trivial | exact Nat.le_refl _ | exact Nat.le_of_ble_eq_true rfl))) ?_
                | refine e_hit rfl ?_ | refine e_miss rfl ?_
                | refine ⟨by kernel_rfl, ?_⟩ | ((with_reducible refine c_grd ?_); (fail_if_success (refine c_lit true rfl rfl rfl ?_)); (fail_if_success (refine c_lit false rfl rfl rfl ?_)); refine c_split rfl rfl (fun _ => ?_) (fun _ => ?_)))
              all_goals exact ⟨j + 1, by omega, by omega, ⟨ky_snoc 18 _ _ _ (((putL (max E0 0) (max S0 0) la (l.getD (i : Int).toNat dAct).key (l.getD (i : Int).toNat dAct).b)).getD (j : Int).toNat dE).1 _ rfl rfl hts, congrArg (D.i .i64) (by omega), rfl, rfl, rfl, rfl, trivial⟩, leOw_C (own2 := [_, _]) rfl ⟨by rw [htl2]; rfl, rfl, trivial⟩, okAll_b (ks := [9000, 18, 8]) w2 (fun k hk => hk) rfl, fun k hk => by rw [hX] at hk; simp at hk⟩
            · rw [List.take_of_length_le (show (((putL (max E0 0) (max S0 0) la (l.getD (i : Int).toNat dAct).key (l.getD (i : Int).toNat dAct).b)).map (·.1)).length ≤ j by rw [hml]; omega)]
              repeat' (first
                | refine r_lendCR (f := 17) (g := g2) rfl w2 rfl rfl Try.call17 rfl rfl cc ?_ | refine r_lendCR (f := 19) (g := g2) rfl w2 rfl rfl Try.call19 rfl rfl ck ?_ | refine r_call (f := 18) rfl rfl Try.call18 rfl hss ?_ | refine r_glendCR (f := 11) (g := g2) rfl w2 rfl rfl rfl rfl Try.call11 rfl rfl cl ?_ | refine r_glendCR (f := 12) (g := g2) rfl w2 rfl rfl rfl rfl Try.call12 rfl rfl cs ?_ | refine r_gcall (f := 20) rfl rfl rfl rfl Try.call20 rfl hrs ?_ | refine ⟨flowOk_col (by kernel_rfl), ?_⟩
                | with_reducible refine t_seq ?_ | with_reducible refine t_region ?_ | with_reducible refine c_nil ?_ | with_reducible refine n_then ?_
                | with_reducible refine t_ret ?_ | with_reducible refine t_skip ?_ | with_reducible refine t_exit ?_ | with_reducible refine t_block ?_
                | with_reducible refine n_block ?_ | with_reducible refine e_then ?_ | with_reducible refine x_then ?_ | with_reducible refine x_block ?_ | with_reducible refine t_draw ?_
                | refine r_val rfl rfl True.intro ?_ | refine r_gskip rfl rfl rfl ?_ | refine r_gskip2 rfl rfl rfl ?_ | refine r_gval rfl rfl rfl rfl True.intro ?_
                | refine t_true rfl ?_ | refine t_false rfl ?_
                | ((first | refine t_cond_d rfl (fun _ => ?_) (fun _ => ?_) | refine t_cond_i rfl (fun _ => ?_) (fun _ => ?_) | refine t_cond_j rfl (fun _ => ?_) (fun _ => ?_) | refine t_cond_s rfl (fun _ => ?_) (fun _ => ?_) | refine t_cond_n rfl (fun _ => ?_) (fun _ => ?_) | refine t_cond rfl (fun _ => ?_) (fun _ => ?_) | refine c_split_d rfl rfl (fun _ => ?_) (fun _ => ?_) | refine c_split_i rfl rfl (fun _ => ?_) (fun _ => ?_) | refine c_split_j rfl rfl (fun _ => ?_) (fun _ => ?_) | refine c_split_s rfl rfl (fun _ => ?_) (fun _ => ?_) | refine c_split_n rfl rfl (fun _ => ?_) (fun _ => ?_)) <;> try (first | contradiction | (exfalso; omega)))
                | refine r_val rfl rfl (by (first | omega | exact ⟨rfl, hby⟩ | exact ⟨rfl, hvb⟩ | exact Nat.le_of_ble_eq_true rfl | ((repeat' refine And.intro ?_ ?_) <;> first | omega | rfl | trivial | exact Nat.le_refl _ | exact Nat.le_of_ble_eq_true rfl))) ?_ | refine r_gval rfl rfl rfl rfl (by (first | omega | exact ⟨rfl, hby⟩ | exact ⟨rfl, hvb⟩ | exact Nat.le_of_ble_eq_true rfl | ((repeat' refine And.intro ?_ ?_) <;> first | omega | rfl | trivial | exact Nat.le_refl _ | exact Nat.le_of_ble_eq_true rfl))) ?_
                | refine r_obj rfl rfl (by (first | omega | exact ⟨rfl, hby⟩ | exact ⟨rfl, hvb⟩ | exact Nat.le_of_ble_eq_true rfl | ((repeat' refine And.intro ?_ ?_) <;> first | omega | rfl | trivial | exact Nat.le_refl _ | exact Nat.le_of_ble_eq_true rfl))) ?_ | refine r_sto rfl (by (first | omega | exact ⟨rfl, hby⟩ | exact ⟨rfl, hvb⟩ | exact Nat.le_of_ble_eq_true rfl | ((repeat' refine And.intro ?_ ?_) <;> first | omega | rfl | trivial | exact Nat.le_refl _ | exact Nat.le_of_ble_eq_true rfl))) ?_ | refine r_gobj rfl rfl rfl rfl (by (first | omega | exact ⟨rfl, hby⟩ | exact ⟨rfl, hvb⟩ | exact Nat.le_of_ble_eq_true rfl | ((repeat' refine And.intro ?_ ?_) <;> first | omega | rfl | trivial | exact Nat.le_refl _ | exact Nat.le_of_ble_eq_true rfl))) ?_
                | refine e_hit rfl ?_ | refine e_miss rfl ?_
                | refine ⟨by kernel_rfl, ?_⟩ | ((with_reducible refine c_grd ?_); (fail_if_success (refine c_lit true rfl rfl rfl ?_)); (fail_if_success (refine c_lit false rfl rfl rfl ?_)); refine c_split rfl rfl (fun _ => ?_) (fun _ => ?_)))
              all_goals exact ⟨(i + 1, g2, (putL (max E0 0) (max S0 0) la (l.getD (i : Int).toNat dAct).key (l.getD (i : Int).toNat dAct).b), h, m), (⟨H2, by omega, by omega, by omega, by omega, by omega⟩ : PlayI l E0 S0 (i + 1) g2 ((putL (max E0 0) (max S0 0) la (l.getD (i : Int).toNat dAct).key (l.getD (i : Int).toNat dAct).b)) (h) (m)), by dsimp only; omega, ⟨rfl, rfl, rfl, congrArg (D.i .i64) (by omega), trivial⟩, leOw_C (own2 := [_]) rfl ⟨rfl, trivial⟩, okAll_b (ks := [9000, 8]) w2 (fun k hk => hk) rfl, fun k hk => by rw [hX] at hk; simp at hk⟩
          | false =>
            obtain ⟨g2, c2, H2, n2⟩ := put_f H (l.getD (i : Int).toNat dAct).key (l.getD (i : Int).toNat dAct).b hA.isB (by show sumL la + ((l.getD (i : Int).toNat dAct).key.length + (l.getD (i : Int).toNat dAct).len) ≤ 1000000; omega) (by omega) (by omega) hpb
            have hrp := rput_no la (l.getD (i : Int).toNat dAct).key (l.getD (i : Int).toNat dAct).len (l.getD (i : Int).toNat dAct).f (max E0 0) (max S0 0) h m hpb (by omega)
            unfold rowE at hrp
            have w2 := H2.wf
            have cl := len_all H2
            have cs := size_all H2
            have cc := counts_all H2
            have ck := keys_all H2 (by omega)
            have hrs := rsize_ctr (la) (max E0 0) (max S0 0) (h) (m) (by omega) (by omega)
            have hss := same_ctr ((la).map (·.1)) ((la).map (·.1)) _ _ (kyF ((la).map (·.1))) (kyF ((la).map (·.1))) rfl rfl (fun _ _ => rfl) (fun _ _ => rfl) (by rw [List.length_map]; omega) (by rw [List.length_map]; omega)
            rw [decide_eq_true rfl] at hss
            have hml : ((la).map (·.1)).length = (la).length := List.length_map ..
            unfold rowE at hrs
            repeat' (first
              | refine r_call (f := 15) rfl rfl Try.call15 rfl hrp ?_ | refine r_lendC (f := 9) (g := g) (g' := g2) rfl n2 w w2 rfl rfl Try.call9 rfl rfl c2 ?_ | refine r_objL rfl rfl rfl (by first | omega | exact ⟨rfl, hby⟩ | exact ⟨rfl, hvb⟩ | exact Nat.le_of_ble_eq_true rfl | ((repeat' refine And.intro ?_ ?_) <;> first | omega | rfl | trivial | exact Nat.le_refl _ | exact Nat.le_of_ble_eq_true rfl)) ?_
              | with_reducible refine t_seq ?_ | with_reducible refine t_region ?_ | with_reducible refine c_nil ?_ | with_reducible refine n_then ?_
              | with_reducible refine t_ret ?_ | with_reducible refine t_skip ?_ | with_reducible refine t_exit ?_ | with_reducible refine t_block ?_
              | with_reducible refine n_block ?_ | with_reducible refine e_then ?_ | with_reducible refine x_then ?_ | with_reducible refine x_block ?_ | with_reducible refine t_draw ?_
              | refine r_val rfl rfl True.intro ?_ | refine r_gskip rfl rfl rfl ?_ | refine r_gskip2 rfl rfl rfl ?_ | refine r_gval rfl rfl rfl rfl True.intro ?_
              | refine t_true rfl ?_ | refine t_false rfl ?_
              | ((first | refine t_cond_d rfl (fun _ => ?_) (fun _ => ?_) | refine t_cond_i rfl (fun _ => ?_) (fun _ => ?_) | refine t_cond_j rfl (fun _ => ?_) (fun _ => ?_) | refine t_cond_s rfl (fun _ => ?_) (fun _ => ?_) | refine t_cond_n rfl (fun _ => ?_) (fun _ => ?_) | refine t_cond rfl (fun _ => ?_) (fun _ => ?_) | refine c_split_d rfl rfl (fun _ => ?_) (fun _ => ?_) | refine c_split_i rfl rfl (fun _ => ?_) (fun _ => ?_) | refine c_split_j rfl rfl (fun _ => ?_) (fun _ => ?_) | refine c_split_s rfl rfl (fun _ => ?_) (fun _ => ?_) | refine c_split_n rfl rfl (fun _ => ?_) (fun _ => ?_)) <;> try (first | contradiction | (exfalso; omega)))
              | refine r_val rfl rfl (by (first | omega | exact ⟨rfl, hby⟩ | exact ⟨rfl, hvb⟩ | exact Nat.le_of_ble_eq_true rfl | ((repeat' refine And.intro ?_ ?_) <;> first | omega | rfl | trivial | exact Nat.le_refl _ | exact Nat.le_of_ble_eq_true rfl))) ?_ | refine r_gval rfl rfl rfl rfl (by (first | omega | exact ⟨rfl, hby⟩ | exact ⟨rfl, hvb⟩ | exact Nat.le_of_ble_eq_true rfl | ((repeat' refine And.intro ?_ ?_) <;> first | omega | rfl | trivial | exact Nat.le_refl _ | exact Nat.le_of_ble_eq_true rfl))) ?_
              | refine r_obj rfl rfl (by (first | omega | exact ⟨rfl, hby⟩ | exact ⟨rfl, hvb⟩ | exact Nat.le_of_ble_eq_true rfl | ((repeat' refine And.intro ?_ ?_) <;> first | omega | rfl | trivial | exact Nat.le_refl _ | exact Nat.le_of_ble_eq_true rfl))) ?_ | refine r_sto rfl (by (first | omega | exact ⟨rfl, hby⟩ | exact ⟨rfl, hvb⟩ | exact Nat.le_of_ble_eq_true rfl | ((repeat' refine And.intro ?_ ?_) <;> first | omega | rfl | trivial | exact Nat.le_refl _ | exact Nat.le_of_ble_eq_true rfl))) ?_ | refine r_gobj rfl rfl rfl rfl (by (first | omega | exact ⟨rfl, hby⟩ | exact ⟨rfl, hvb⟩ | exact Nat.le_of_ble_eq_true rfl | ((repeat' refine And.intro ?_ ?_) <;> first | omega | rfl | trivial | exact Nat.le_refl _ | exact Nat.le_of_ble_eq_true rfl))) ?_
              | refine e_hit rfl ?_ | refine e_miss rfl ?_
              | refine ⟨by kernel_rfl, ?_⟩ | refine x_end rfl ?_ | refine n_end rfl ?_ | ((with_reducible refine c_grd ?_); (fail_if_success (refine c_lit true rfl rfl rfl ?_)); (fail_if_success (refine c_lit false rfl rfl rfl ?_)); refine c_split rfl rfl (fun _ => ?_) (fun _ => ?_)))
            all_goals first | (exfalso; rename_i hz; simp at hz; done) | skip
            refine T.adopt 18 18 9 1 (kyF []) rfl ((look_lowC rfl).trans rfl) ?_
            refine T.loop hL (fun j : Nat => (18, .gs 18 1 (((la).map (·.1)).take j).length (kyF (((la).map (·.1)).take j))) :: (19, .i .i64 j) :: plF l i) (fun j => [(18, .row 9 1 (((la).map (·.1)).take j).length), refO (la) E0 S0 (h) (m)] ++ objs g2) (fun j => j ≤ (la).length) (fun j => (la).length - j) 0 (Nat.zero_le _)
              ⟨⟨by simp only [List.take_zero]; rfl, rfl, rfl, rfl, rfl, rfl, trivial⟩, leOw_C (own2 := [_, _]) rfl ⟨by simp only [List.take_zero]; rfl, rfl, trivial⟩, okAll_b (ks := [9000, 18, 8]) w2 (fun k hk => hk) rfl, fun k hk => by rw [hX] at hk; simp at hk⟩ ?_
            intro j hj
            by_cases hjl : j < (la).length
            · have htl : (((la).map (·.1)).take j).length = j := by rw [List.length_take, hml]; omega
              have hts : ((la).map (·.1)).take (j + 1) = ((la).map (·.1)).take j ++ [((la).getD (j : Int).toNat dE).1] := by
                rw [Int.toNat_natCast]
                exact keys_take _ hjl
              have htl2 : (((la).map (·.1)).take (j + 1)).length = (((la).map (·.1)).take j).length + 1 := by rw [hts]; simp
              repeat' (first
                | refine r_objL rfl rfl rfl (by first | omega | exact ⟨rfl, hby⟩ | exact ⟨rfl, hvb⟩ | exact Nat.le_of_ble_eq_true rfl | ((repeat' refine And.intro ?_ ?_) <;> first | omega | rfl | trivial | exact Nat.le_refl _ | exact Nat.le_of_ble_eq_true rfl)) ?_
                | with_reducible refine t_seq ?_ | with_reducible refine t_region ?_ | with_reducible refine c_nil ?_ | with_reducible refine n_then ?_
                | with_reducible refine t_ret ?_ | with_reducible refine t_skip ?_ | with_reducible refine t_exit ?_ | with_reducible refine t_block ?_
                | with_reducible refine n_block ?_ | with_reducible refine e_then ?_ | with_reducible refine x_then ?_ | with_reducible refine x_block ?_ | with_reducible refine t_draw ?_
                | refine r_val rfl rfl True.intro ?_ | refine r_gskip rfl rfl rfl ?_ | refine r_gskip2 rfl rfl rfl ?_ | refine r_gval rfl rfl rfl rfl True.intro ?_
                | refine t_true rfl ?_ | refine t_false rfl ?_
                | ((first | refine t_cond_d rfl (fun _ => ?_) (fun _ => ?_) | refine t_cond_i rfl (fun _ => ?_) (fun _ => ?_) | refine t_cond_j rfl (fun _ => ?_) (fun _ => ?_) | refine t_cond_s rfl (fun _ => ?_) (fun _ => ?_) | refine t_cond_n rfl (fun _ => ?_) (fun _ => ?_) | refine t_cond rfl (fun _ => ?_) (fun _ => ?_) | refine c_split_d rfl rfl (fun _ => ?_) (fun _ => ?_) | refine c_split_i rfl rfl (fun _ => ?_) (fun _ => ?_) | refine c_split_j rfl rfl (fun _ => ?_) (fun _ => ?_) | refine c_split_s rfl rfl (fun _ => ?_) (fun _ => ?_) | refine c_split_n rfl rfl (fun _ => ?_) (fun _ => ?_)) <;> try (first | contradiction | (exfalso; omega)))
                | refine r_val rfl rfl (by (first | omega | exact ⟨rfl, hby⟩ | exact ⟨rfl, hvb⟩ | exact Nat.le_of_ble_eq_true rfl | ((repeat' refine And.intro ?_ ?_) <;> first | omega | rfl | trivial | exact Nat.le_refl _ | exact Nat.le_of_ble_eq_true rfl))) ?_ | refine r_gval rfl rfl rfl rfl (by (first | omega | exact ⟨rfl, hby⟩ | exact ⟨rfl, hvb⟩ | exact Nat.le_of_ble_eq_true rfl | ((repeat' refine And.intro ?_ ?_) <;> first | omega | rfl | trivial | exact Nat.le_refl _ | exact Nat.le_of_ble_eq_true rfl))) ?_
                | refine r_obj rfl rfl (by (first | omega | exact ⟨rfl, hby⟩ | exact ⟨rfl, hvb⟩ | exact Nat.le_of_ble_eq_true rfl | ((repeat' refine And.intro ?_ ?_) <;> first | omega | rfl | trivial | exact Nat.le_refl _ | exact Nat.le_of_ble_eq_true rfl))) ?_ | refine r_sto rfl (by (first | omega | exact ⟨rfl, hby⟩ | exact ⟨rfl, hvb⟩ | exact Nat.le_of_ble_eq_true rfl | ((repeat' refine And.intro ?_ ?_) <;> first | omega | rfl | trivial | exact Nat.le_refl _ | exact Nat.le_of_ble_eq_true rfl))) ?_ | refine r_gobj rfl rfl rfl rfl (by (first | omega | exact ⟨rfl, hby⟩ | exact ⟨rfl, hvb⟩ | exact Nat.le_of_ble_eq_true rfl | ((repeat' refine And.intro ?_ ?_) <;> first | omega | rfl | trivial | exact Nat.le_refl _ | exact Nat.le_of_ble_eq_true rfl))) ?_
                | refine e_hit rfl ?_ | refine e_miss rfl ?_
                | refine ⟨by kernel_rfl, ?_⟩ | ((with_reducible refine c_grd ?_); (fail_if_success (refine c_lit true rfl rfl rfl ?_)); (fail_if_success (refine c_lit false rfl rfl rfl ?_)); refine c_split rfl rfl (fun _ => ?_) (fun _ => ?_)))
              all_goals exact ⟨j + 1, by omega, by omega, ⟨ky_snoc 18 _ _ _ ((la).getD (j : Int).toNat dE).1 _ rfl rfl hts, congrArg (D.i .i64) (by omega), rfl, rfl, rfl, rfl, trivial⟩, leOw_C (own2 := [_, _]) rfl ⟨by rw [htl2]; rfl, rfl, trivial⟩, okAll_b (ks := [9000, 18, 8]) w2 (fun k hk => hk) rfl, fun k hk => by rw [hX] at hk; simp at hk⟩
            · rw [List.take_of_length_le (show ((la).map (·.1)).length ≤ j by rw [hml]; omega)]
              repeat' (first
                | refine r_lendCR (f := 17) (g := g2) rfl w2 rfl rfl Try.call17 rfl rfl cc ?_ | refine r_lendCR (f := 19) (g := g2) rfl w2 rfl rfl Try.call19 rfl rfl ck ?_ | refine r_call (f := 18) rfl rfl Try.call18 rfl hss ?_ | refine r_glendCR (f := 11) (g := g2) rfl w2 rfl rfl rfl rfl Try.call11 rfl rfl cl ?_ | refine r_glendCR (f := 12) (g := g2) rfl w2 rfl rfl rfl rfl Try.call12 rfl rfl cs ?_ | refine r_gcall (f := 20) rfl rfl rfl rfl Try.call20 rfl hrs ?_ | refine ⟨flowOk_col (by kernel_rfl), ?_⟩
                | with_reducible refine t_seq ?_ | with_reducible refine t_region ?_ | with_reducible refine c_nil ?_ | with_reducible refine n_then ?_
                | with_reducible refine t_ret ?_ | with_reducible refine t_skip ?_ | with_reducible refine t_exit ?_ | with_reducible refine t_block ?_
                | with_reducible refine n_block ?_ | with_reducible refine e_then ?_ | with_reducible refine x_then ?_ | with_reducible refine x_block ?_ | with_reducible refine t_draw ?_
                | refine r_val rfl rfl True.intro ?_ | refine r_gskip rfl rfl rfl ?_ | refine r_gskip2 rfl rfl rfl ?_ | refine r_gval rfl rfl rfl rfl True.intro ?_
                | refine t_true rfl ?_ | refine t_false rfl ?_
                | ((first | refine t_cond_d rfl (fun _ => ?_) (fun _ => ?_) | refine t_cond_i rfl (fun _ => ?_) (fun _ => ?_) | refine t_cond_j rfl (fun _ => ?_) (fun _ => ?_) | refine t_cond_s rfl (fun _ => ?_) (fun _ => ?_) | refine t_cond_n rfl (fun _ => ?_) (fun _ => ?_) | refine t_cond rfl (fun _ => ?_) (fun _ => ?_) | refine c_split_d rfl rfl (fun _ => ?_) (fun _ => ?_) | refine c_split_i rfl rfl (fun _ => ?_) (fun _ => ?_) | refine c_split_j rfl rfl (fun _ => ?_) (fun _ => ?_) | refine c_split_s rfl rfl (fun _ => ?_) (fun _ => ?_) | refine c_split_n rfl rfl (fun _ => ?_) (fun _ => ?_)) <;> try (first | contradiction | (exfalso; omega)))
                | refine r_val rfl rfl (by (first | omega | exact ⟨rfl, hby⟩ | exact ⟨rfl, hvb⟩ | exact Nat.le_of_ble_eq_true rfl | ((repeat' refine And.intro ?_ ?_) <;> first | omega | rfl | trivial | exact Nat.le_refl _ | exact Nat.le_of_ble_eq_true rfl))) ?_ | refine r_gval rfl rfl rfl rfl (by (first | omega | exact ⟨rfl, hby⟩ | exact ⟨rfl, hvb⟩ | exact Nat.le_of_ble_eq_true rfl | ((repeat' refine And.intro ?_ ?_) <;> first | omega | rfl | trivial | exact Nat.le_refl _ | exact Nat.le_of_ble_eq_true rfl))) ?_
                | refine r_obj rfl rfl (by (first | omega | exact ⟨rfl, hby⟩ | exact ⟨rfl, hvb⟩ | exact Nat.le_of_ble_eq_true rfl | ((repeat' refine And.intro ?_ ?_) <;> first | omega | rfl | trivial | exact Nat.le_refl _ | exact Nat.le_of_ble_eq_true rfl))) ?_ | refine r_sto rfl (by (first | omega | exact ⟨rfl, hby⟩ | exact ⟨rfl, hvb⟩ | exact Nat.le_of_ble_eq_true rfl | ((repeat' refine And.intro ?_ ?_) <;> first | omega | rfl | trivial | exact Nat.le_refl _ | exact Nat.le_of_ble_eq_true rfl))) ?_ | refine r_gobj rfl rfl rfl rfl (by (first | omega | exact ⟨rfl, hby⟩ | exact ⟨rfl, hvb⟩ | exact Nat.le_of_ble_eq_true rfl | ((repeat' refine And.intro ?_ ?_) <;> first | omega | rfl | trivial | exact Nat.le_refl _ | exact Nat.le_of_ble_eq_true rfl))) ?_
                | refine e_hit rfl ?_ | refine e_miss rfl ?_
                | refine ⟨by kernel_rfl, ?_⟩ | ((with_reducible refine c_grd ?_); (fail_if_success (refine c_lit true rfl rfl rfl ?_)); (fail_if_success (refine c_lit false rfl rfl rfl ?_)); refine c_split rfl rfl (fun _ => ?_) (fun _ => ?_)))
              all_goals exact ⟨(i + 1, g2, la, h, m), (⟨H2, by omega, by omega, by omega, by omega, by omega⟩ : PlayI l E0 S0 (i + 1) g2 (la) (h) (m)), by dsimp only; omega, ⟨rfl, rfl, rfl, congrArg (D.i .i64) (by omega), trivial⟩, leOw_C (own2 := [_]) rfl ⟨rfl, trivial⟩, okAll_b (ks := [9000, 8]) w2 (fun k hk => hk) rfl, fun k hk => by rw [hX] at hk; simp at hk⟩
        · by_cases hd2 : (l.getD (i : Int).toNat dAct).dd = 2
          · obtain ⟨g2, c2, H2, n2⟩ := clear_all H
            have lb2 : sumL ([] : List Ent) = 0 := rfl
            have lb1 : ([] : List Ent).length = 0 := rfl
            have w2 := H2.wf
            have cl := len_all H2
            have cs := size_all H2
            have cc := counts_all H2
            have ck := keys_all H2 (by omega)
            have hrs := rsize_ctr (([] : List Ent)) (max E0 0) (max S0 0) (h) (m) (by omega) (by omega)
            have hss := same_ctr ((([] : List Ent)).map (·.1)) ((([] : List Ent)).map (·.1)) _ _ (kyF ((([] : List Ent)).map (·.1))) (kyF ((([] : List Ent)).map (·.1))) rfl rfl (fun _ _ => rfl) (fun _ _ => rfl) (by rw [List.length_map]; omega) (by rw [List.length_map]; omega)
            rw [decide_eq_true rfl] at hss
            have hml : ((([] : List Ent)).map (·.1)).length = (([] : List Ent)).length := List.length_map ..
            unfold rowE at hrs
            repeat' (first
              | refine r_lendC (f := 16) (g := g) (g' := g2) rfl n2 w w2 rfl rfl Try.call16 rfl rfl c2 ?_ | refine r_objL rfl rfl rfl (by first | omega | exact ⟨rfl, hby⟩ | exact ⟨rfl, hvb⟩ | exact Nat.le_of_ble_eq_true rfl | ((repeat' refine And.intro ?_ ?_) <;> first | omega | rfl | trivial | exact Nat.le_refl _ | exact Nat.le_of_ble_eq_true rfl)) ?_
              | with_reducible refine t_seq ?_ | with_reducible refine t_region ?_ | with_reducible refine c_nil ?_ | with_reducible refine n_then ?_
              | with_reducible refine t_ret ?_ | with_reducible refine t_skip ?_ | with_reducible refine t_exit ?_ | with_reducible refine t_block ?_
              | with_reducible refine n_block ?_ | with_reducible refine e_then ?_ | with_reducible refine x_then ?_ | with_reducible refine x_block ?_ | with_reducible refine t_draw ?_
              | refine r_val rfl rfl True.intro ?_ | refine r_gskip rfl rfl rfl ?_ | refine r_gskip2 rfl rfl rfl ?_ | refine r_gval rfl rfl rfl rfl True.intro ?_
              | refine t_true rfl ?_ | refine t_false rfl ?_
              | ((first | refine t_cond_d rfl (fun _ => ?_) (fun _ => ?_) | refine t_cond_i rfl (fun _ => ?_) (fun _ => ?_) | refine t_cond_j rfl (fun _ => ?_) (fun _ => ?_) | refine t_cond_s rfl (fun _ => ?_) (fun _ => ?_) | refine t_cond_n rfl (fun _ => ?_) (fun _ => ?_) | refine t_cond rfl (fun _ => ?_) (fun _ => ?_) | refine c_split_d rfl rfl (fun _ => ?_) (fun _ => ?_) | refine c_split_i rfl rfl (fun _ => ?_) (fun _ => ?_) | refine c_split_j rfl rfl (fun _ => ?_) (fun _ => ?_) | refine c_split_s rfl rfl (fun _ => ?_) (fun _ => ?_) | refine c_split_n rfl rfl (fun _ => ?_) (fun _ => ?_)) <;> try (first | contradiction | (exfalso; omega)))
              | refine r_val rfl rfl (by (first | omega | exact ⟨rfl, hby⟩ | exact ⟨rfl, hvb⟩ | exact Nat.le_of_ble_eq_true rfl | ((repeat' refine And.intro ?_ ?_) <;> first | omega | rfl | trivial | exact Nat.le_refl _ | exact Nat.le_of_ble_eq_true rfl))) ?_ | refine r_gval rfl rfl rfl rfl (by (first | omega | exact ⟨rfl, hby⟩ | exact ⟨rfl, hvb⟩ | exact Nat.le_of_ble_eq_true rfl | ((repeat' refine And.intro ?_ ?_) <;> first | omega | rfl | trivial | exact Nat.le_refl _ | exact Nat.le_of_ble_eq_true rfl))) ?_
              | refine r_obj rfl rfl (by (first | omega | exact ⟨rfl, hby⟩ | exact ⟨rfl, hvb⟩ | exact Nat.le_of_ble_eq_true rfl | ((repeat' refine And.intro ?_ ?_) <;> first | omega | rfl | trivial | exact Nat.le_refl _ | exact Nat.le_of_ble_eq_true rfl))) ?_ | refine r_sto rfl (by (first | omega | exact ⟨rfl, hby⟩ | exact ⟨rfl, hvb⟩ | exact Nat.le_of_ble_eq_true rfl | ((repeat' refine And.intro ?_ ?_) <;> first | omega | rfl | trivial | exact Nat.le_refl _ | exact Nat.le_of_ble_eq_true rfl))) ?_ | refine r_gobj rfl rfl rfl rfl (by (first | omega | exact ⟨rfl, hby⟩ | exact ⟨rfl, hvb⟩ | exact Nat.le_of_ble_eq_true rfl | ((repeat' refine And.intro ?_ ?_) <;> first | omega | rfl | trivial | exact Nat.le_refl _ | exact Nat.le_of_ble_eq_true rfl))) ?_
              | refine e_hit rfl ?_ | refine e_miss rfl ?_
              | refine ⟨by kernel_rfl, ?_⟩ | refine x_end rfl ?_ | refine n_end rfl ?_ | ((with_reducible refine c_grd ?_); (fail_if_success (refine c_lit true rfl rfl rfl ?_)); (fail_if_success (refine c_lit false rfl rfl rfl ?_)); refine c_split rfl rfl (fun _ => ?_) (fun _ => ?_)))
            all_goals first | (exfalso; rename_i hz; simp at hz; done) | skip
            refine T.telL 8 rfl wk_nilr rfl ?_
            refine T.adopt 18 18 9 1 (kyF []) rfl ((look_lowC rfl).trans rfl) ?_
            refine T.loop hL (fun j : Nat => (18, .gs 18 1 (((([] : List Ent)).map (·.1)).take j).length (kyF (((([] : List Ent)).map (·.1)).take j))) :: (19, .i .i64 j) :: plF l i) (fun j => [(18, .row 9 1 (((([] : List Ent)).map (·.1)).take j).length), refO (([] : List Ent)) E0 S0 (h) (m)] ++ objs g2) (fun j => j ≤ (([] : List Ent)).length) (fun j => (([] : List Ent)).length - j) 0 (Nat.zero_le _)
              ⟨⟨by simp only [List.take_zero]; rfl, rfl, rfl, rfl, rfl, rfl, trivial⟩, leOw_C (own2 := [_, _]) rfl ⟨by simp only [List.take_zero]; rfl, rfl, trivial⟩, okAll_b (ks := [9000, 18, 8]) w2 (fun k hk => hk) rfl, fun k hk => by rw [hX] at hk; simp at hk⟩ ?_
            intro j hj
            by_cases hjl : j < (([] : List Ent)).length
            · exact absurd hjl (Nat.not_lt_zero _)
            · rw [List.take_of_length_le (show ((([] : List Ent)).map (·.1)).length ≤ j by rw [hml]; omega)]
              repeat' (first
                | refine r_lendCR (f := 17) (g := g2) rfl w2 rfl rfl Try.call17 rfl rfl cc ?_ | refine r_lendCR (f := 19) (g := g2) rfl w2 rfl rfl Try.call19 rfl rfl ck ?_ | refine r_call (f := 18) rfl rfl Try.call18 rfl hss ?_ | refine r_glendCR (f := 11) (g := g2) rfl w2 rfl rfl rfl rfl Try.call11 rfl rfl cl ?_ | refine r_glendCR (f := 12) (g := g2) rfl w2 rfl rfl rfl rfl Try.call12 rfl rfl cs ?_ | refine r_gcall (f := 20) rfl rfl rfl rfl Try.call20 rfl hrs ?_ | refine ⟨flowOk_col (by kernel_rfl), ?_⟩
                | with_reducible refine t_seq ?_ | with_reducible refine t_region ?_ | with_reducible refine c_nil ?_ | with_reducible refine n_then ?_
                | with_reducible refine t_ret ?_ | with_reducible refine t_skip ?_ | with_reducible refine t_exit ?_ | with_reducible refine t_block ?_
                | with_reducible refine n_block ?_ | with_reducible refine e_then ?_ | with_reducible refine x_then ?_ | with_reducible refine x_block ?_ | with_reducible refine t_draw ?_
                | refine r_val rfl rfl True.intro ?_ | refine r_gskip rfl rfl rfl ?_ | refine r_gskip2 rfl rfl rfl ?_ | refine r_gval rfl rfl rfl rfl True.intro ?_
                | refine t_true rfl ?_ | refine t_false rfl ?_
                | ((first | refine t_cond_d rfl (fun _ => ?_) (fun _ => ?_) | refine t_cond_i rfl (fun _ => ?_) (fun _ => ?_) | refine t_cond_j rfl (fun _ => ?_) (fun _ => ?_) | refine t_cond_s rfl (fun _ => ?_) (fun _ => ?_) | refine t_cond_n rfl (fun _ => ?_) (fun _ => ?_) | refine t_cond rfl (fun _ => ?_) (fun _ => ?_) | refine c_split_d rfl rfl (fun _ => ?_) (fun _ => ?_) | refine c_split_i rfl rfl (fun _ => ?_) (fun _ => ?_) | refine c_split_j rfl rfl (fun _ => ?_) (fun _ => ?_) | refine c_split_s rfl rfl (fun _ => ?_) (fun _ => ?_) | refine c_split_n rfl rfl (fun _ => ?_) (fun _ => ?_)) <;> try (first | contradiction | (exfalso; omega)))
                | refine r_val rfl rfl (by (first | omega | exact ⟨rfl, hby⟩ | exact ⟨rfl, hvb⟩ | exact Nat.le_of_ble_eq_true rfl | ((repeat' refine And.intro ?_ ?_) <;> first | omega | rfl | trivial | exact Nat.le_refl _ | exact Nat.le_of_ble_eq_true rfl))) ?_ | refine r_gval rfl rfl rfl rfl (by (first | omega | exact ⟨rfl, hby⟩ | exact ⟨rfl, hvb⟩ | exact Nat.le_of_ble_eq_true rfl | ((repeat' refine And.intro ?_ ?_) <;> first | omega | rfl | trivial | exact Nat.le_refl _ | exact Nat.le_of_ble_eq_true rfl))) ?_
                | refine r_obj rfl rfl (by (first | omega | exact ⟨rfl, hby⟩ | exact ⟨rfl, hvb⟩ | exact Nat.le_of_ble_eq_true rfl | ((repeat' refine And.intro ?_ ?_) <;> first | omega | rfl | trivial | exact Nat.le_refl _ | exact Nat.le_of_ble_eq_true rfl))) ?_ | refine r_sto rfl (by (first | omega | exact ⟨rfl, hby⟩ | exact ⟨rfl, hvb⟩ | exact Nat.le_of_ble_eq_true rfl | ((repeat' refine And.intro ?_ ?_) <;> first | omega | rfl | trivial | exact Nat.le_refl _ | exact Nat.le_of_ble_eq_true rfl))) ?_ | refine r_gobj rfl rfl rfl rfl (by (first | omega | exact ⟨rfl, hby⟩ | exact ⟨rfl, hvb⟩ | exact Nat.le_of_ble_eq_true rfl | ((repeat' refine And.intro ?_ ?_) <;> first | omega | rfl | trivial | exact Nat.le_refl _ | exact Nat.le_of_ble_eq_true rfl))) ?_
                | refine e_hit rfl ?_ | refine e_miss rfl ?_
                | refine ⟨by kernel_rfl, ?_⟩ | ((with_reducible refine c_grd ?_); (fail_if_success (refine c_lit true rfl rfl rfl ?_)); (fail_if_success (refine c_lit false rfl rfl rfl ?_)); refine c_split rfl rfl (fun _ => ?_) (fun _ => ?_)))
              all_goals exact ⟨(i + 1, g2, ([] : List Ent), h, m), (⟨H2, by omega, by omega, by omega, by omega, by omega⟩ : PlayI l E0 S0 (i + 1) g2 (([] : List Ent)) (h) (m)), by dsimp only; omega, ⟨rfl, rfl, rfl, congrArg (D.i .i64) (by omega), trivial⟩, leOw_C (own2 := [_]) rfl ⟨rfl, trivial⟩, okAll_b (ks := [9000, 8]) w2 (fun k hk => hk) rfl, fun k hk => by rw [hX] at hk; simp at hk⟩
          · obtain ⟨g2, hg2, H2, n2⟩ : ∃ g2, g2 = g ∧ Holds g2 la (max E0 0) (max S0 0) h m ∧ g.n ≤ g2.n := ⟨g, rfl, H, Nat.le_refl _⟩
            subst hg2
            have w2 := H2.wf
            have cl := len_all H2
            have cs := size_all H2
            have cc := counts_all H2
            have ck := keys_all H2 (by omega)
            have hrs := rsize_ctr (la) (max E0 0) (max S0 0) (h) (m) (by omega) (by omega)
            have hss := same_ctr ((la).map (·.1)) ((la).map (·.1)) _ _ (kyF ((la).map (·.1))) (kyF ((la).map (·.1))) rfl rfl (fun _ _ => rfl) (fun _ _ => rfl) (by rw [List.length_map]; omega) (by rw [List.length_map]; omega)
            rw [decide_eq_true rfl] at hss
            have hml : ((la).map (·.1)).length = (la).length := List.length_map ..
            unfold rowE at hrs
            repeat' (first
              | refine r_objL rfl rfl rfl (by first | omega | exact ⟨rfl, hby⟩ | exact ⟨rfl, hvb⟩ | exact Nat.le_of_ble_eq_true rfl | ((repeat' refine And.intro ?_ ?_) <;> first | omega | rfl | trivial | exact Nat.le_refl _ | exact Nat.le_of_ble_eq_true rfl)) ?_
              | with_reducible refine t_seq ?_ | with_reducible refine t_region ?_ | with_reducible refine c_nil ?_ | with_reducible refine n_then ?_
              | with_reducible refine t_ret ?_ | with_reducible refine t_skip ?_ | with_reducible refine t_exit ?_ | with_reducible refine t_block ?_
              | with_reducible refine n_block ?_ | with_reducible refine e_then ?_ | with_reducible refine x_then ?_ | with_reducible refine x_block ?_ | with_reducible refine t_draw ?_
              | refine r_val rfl rfl True.intro ?_ | refine r_gskip rfl rfl rfl ?_ | refine r_gskip2 rfl rfl rfl ?_ | refine r_gval rfl rfl rfl rfl True.intro ?_
              | refine t_true rfl ?_ | refine t_false rfl ?_
              | ((first | refine t_cond_d rfl (fun _ => ?_) (fun _ => ?_) | refine t_cond_i rfl (fun _ => ?_) (fun _ => ?_) | refine t_cond_j rfl (fun _ => ?_) (fun _ => ?_) | refine t_cond_s rfl (fun _ => ?_) (fun _ => ?_) | refine t_cond_n rfl (fun _ => ?_) (fun _ => ?_) | refine t_cond rfl (fun _ => ?_) (fun _ => ?_) | refine c_split_d rfl rfl (fun _ => ?_) (fun _ => ?_) | refine c_split_i rfl rfl (fun _ => ?_) (fun _ => ?_) | refine c_split_j rfl rfl (fun _ => ?_) (fun _ => ?_) | refine c_split_s rfl rfl (fun _ => ?_) (fun _ => ?_) | refine c_split_n rfl rfl (fun _ => ?_) (fun _ => ?_)) <;> try (first | contradiction | (exfalso; omega)))
              | refine r_val rfl rfl (by (first | omega | exact ⟨rfl, hby⟩ | exact ⟨rfl, hvb⟩ | exact Nat.le_of_ble_eq_true rfl | ((repeat' refine And.intro ?_ ?_) <;> first | omega | rfl | trivial | exact Nat.le_refl _ | exact Nat.le_of_ble_eq_true rfl))) ?_ | refine r_gval rfl rfl rfl rfl (by (first | omega | exact ⟨rfl, hby⟩ | exact ⟨rfl, hvb⟩ | exact Nat.le_of_ble_eq_true rfl | ((repeat' refine And.intro ?_ ?_) <;> first | omega | rfl | trivial | exact Nat.le_refl _ | exact Nat.le_of_ble_eq_true rfl))) ?_
              | refine r_obj rfl rfl (by (first | omega | exact ⟨rfl, hby⟩ | exact ⟨rfl, hvb⟩ | exact Nat.le_of_ble_eq_true rfl | ((repeat' refine And.intro ?_ ?_) <;> first | omega | rfl | trivial | exact Nat.le_refl _ | exact Nat.le_of_ble_eq_true rfl))) ?_ | refine r_sto rfl (by (first | omega | exact ⟨rfl, hby⟩ | exact ⟨rfl, hvb⟩ | exact Nat.le_of_ble_eq_true rfl | ((repeat' refine And.intro ?_ ?_) <;> first | omega | rfl | trivial | exact Nat.le_refl _ | exact Nat.le_of_ble_eq_true rfl))) ?_ | refine r_gobj rfl rfl rfl rfl (by (first | omega | exact ⟨rfl, hby⟩ | exact ⟨rfl, hvb⟩ | exact Nat.le_of_ble_eq_true rfl | ((repeat' refine And.intro ?_ ?_) <;> first | omega | rfl | trivial | exact Nat.le_refl _ | exact Nat.le_of_ble_eq_true rfl))) ?_
              | refine e_hit rfl ?_ | refine e_miss rfl ?_
              | refine ⟨by kernel_rfl, ?_⟩ | refine x_end rfl ?_ | refine n_end rfl ?_ | ((with_reducible refine c_grd ?_); (fail_if_success (refine c_lit true rfl rfl rfl ?_)); (fail_if_success (refine c_lit false rfl rfl rfl ?_)); refine c_split rfl rfl (fun _ => ?_) (fun _ => ?_)))
            all_goals first | (exfalso; rename_i hz; simp at hz; done) | skip
            refine T.adopt 18 18 9 1 (kyF []) rfl ((look_lowC rfl).trans rfl) ?_
            refine T.loop hL (fun j : Nat => (18, .gs 18 1 (((la).map (·.1)).take j).length (kyF (((la).map (·.1)).take j))) :: (19, .i .i64 j) :: plF l i) (fun j => [(18, .row 9 1 (((la).map (·.1)).take j).length), refO (la) E0 S0 (h) (m)] ++ objs g2) (fun j => j ≤ (la).length) (fun j => (la).length - j) 0 (Nat.zero_le _)
              ⟨⟨by simp only [List.take_zero]; rfl, rfl, rfl, rfl, rfl, rfl, trivial⟩, leOw_C (own2 := [_, _]) rfl ⟨by simp only [List.take_zero]; rfl, rfl, trivial⟩, okAll_b (ks := [9000, 18, 8]) w2 (fun k hk => hk) rfl, fun k hk => by rw [hX] at hk; simp at hk⟩ ?_
            intro j hj
            by_cases hjl : j < (la).length
            · have htl : (((la).map (·.1)).take j).length = j := by rw [List.length_take, hml]; omega
              have hts : ((la).map (·.1)).take (j + 1) = ((la).map (·.1)).take j ++ [((la).getD (j : Int).toNat dE).1] := by
                rw [Int.toNat_natCast]
                exact keys_take _ hjl
              have htl2 : (((la).map (·.1)).take (j + 1)).length = (((la).map (·.1)).take j).length + 1 := by rw [hts]; simp
              repeat' (first
                | refine r_objL rfl rfl rfl (by first | omega | exact ⟨rfl, hby⟩ | exact ⟨rfl, hvb⟩ | exact Nat.le_of_ble_eq_true rfl | ((repeat' refine And.intro ?_ ?_) <;> first | omega | rfl | trivial | exact Nat.le_refl _ | exact Nat.le_of_ble_eq_true rfl)) ?_
                | with_reducible refine t_seq ?_ | with_reducible refine t_region ?_ | with_reducible refine c_nil ?_ | with_reducible refine n_then ?_
                | with_reducible refine t_ret ?_ | with_reducible refine t_skip ?_ | with_reducible refine t_exit ?_ | with_reducible refine t_block ?_
                | with_reducible refine n_block ?_ | with_reducible refine e_then ?_ | with_reducible refine x_then ?_ | with_reducible refine x_block ?_ | with_reducible refine t_draw ?_
                | refine r_val rfl rfl True.intro ?_ | refine r_gskip rfl rfl rfl ?_ | refine r_gskip2 rfl rfl rfl ?_ | refine r_gval rfl rfl rfl rfl True.intro ?_
                | refine t_true rfl ?_ | refine t_false rfl ?_
                | ((first | refine t_cond_d rfl (fun _ => ?_) (fun _ => ?_) | refine t_cond_i rfl (fun _ => ?_) (fun _ => ?_) | refine t_cond_j rfl (fun _ => ?_) (fun _ => ?_) | refine t_cond_s rfl (fun _ => ?_) (fun _ => ?_) | refine t_cond_n rfl (fun _ => ?_) (fun _ => ?_) | refine t_cond rfl (fun _ => ?_) (fun _ => ?_) | refine c_split_d rfl rfl (fun _ => ?_) (fun _ => ?_) | refine c_split_i rfl rfl (fun _ => ?_) (fun _ => ?_) | refine c_split_j rfl rfl (fun _ => ?_) (fun _ => ?_) | refine c_split_s rfl rfl (fun _ => ?_) (fun _ => ?_) | refine c_split_n rfl rfl (fun _ => ?_) (fun _ => ?_)) <;> try (first | contradiction | (exfalso; omega)))
                | refine r_val rfl rfl (by (first | omega | exact ⟨rfl, hby⟩ | exact ⟨rfl, hvb⟩ | exact Nat.le_of_ble_eq_true rfl | ((repeat' refine And.intro ?_ ?_) <;> first | omega | rfl | trivial | exact Nat.le_refl _ | exact Nat.le_of_ble_eq_true rfl))) ?_ | refine r_gval rfl rfl rfl rfl (by (first | omega | exact ⟨rfl, hby⟩ | exact ⟨rfl, hvb⟩ | exact Nat.le_of_ble_eq_true rfl | ((repeat' refine And.intro ?_ ?_) <;> first | omega | rfl | trivial | exact Nat.le_refl _ | exact Nat.le_of_ble_eq_true rfl))) ?_
                | refine r_obj rfl rfl (by (first | omega | exact ⟨rfl, hby⟩ | exact ⟨rfl, hvb⟩ | exact Nat.le_of_ble_eq_true rfl | ((repeat' refine And.intro ?_ ?_) <;> first | omega | rfl | trivial | exact Nat.le_refl _ | exact Nat.le_of_ble_eq_true rfl))) ?_ | refine r_sto rfl (by (first | omega | exact ⟨rfl, hby⟩ | exact ⟨rfl, hvb⟩ | exact Nat.le_of_ble_eq_true rfl | ((repeat' refine And.intro ?_ ?_) <;> first | omega | rfl | trivial | exact Nat.le_refl _ | exact Nat.le_of_ble_eq_true rfl))) ?_ | refine r_gobj rfl rfl rfl rfl (by (first | omega | exact ⟨rfl, hby⟩ | exact ⟨rfl, hvb⟩ | exact Nat.le_of_ble_eq_true rfl | ((repeat' refine And.intro ?_ ?_) <;> first | omega | rfl | trivial | exact Nat.le_refl _ | exact Nat.le_of_ble_eq_true rfl))) ?_
                | refine e_hit rfl ?_ | refine e_miss rfl ?_
                | refine ⟨by kernel_rfl, ?_⟩ | ((with_reducible refine c_grd ?_); (fail_if_success (refine c_lit true rfl rfl rfl ?_)); (fail_if_success (refine c_lit false rfl rfl rfl ?_)); refine c_split rfl rfl (fun _ => ?_) (fun _ => ?_)))
              all_goals exact ⟨j + 1, by omega, by omega, ⟨ky_snoc 18 _ _ _ ((la).getD (j : Int).toNat dE).1 _ rfl rfl hts, congrArg (D.i .i64) (by omega), rfl, rfl, rfl, rfl, trivial⟩, leOw_C (own2 := [_, _]) rfl ⟨by rw [htl2]; rfl, rfl, trivial⟩, okAll_b (ks := [9000, 18, 8]) w2 (fun k hk => hk) rfl, fun k hk => by rw [hX] at hk; simp at hk⟩
            · rw [List.take_of_length_le (show ((la).map (·.1)).length ≤ j by rw [hml]; omega)]
              repeat' (first
                | refine r_lendCR (f := 17) (g := g2) rfl w2 rfl rfl Try.call17 rfl rfl cc ?_ | refine r_lendCR (f := 19) (g := g2) rfl w2 rfl rfl Try.call19 rfl rfl ck ?_ | refine r_call (f := 18) rfl rfl Try.call18 rfl hss ?_ | refine r_glendCR (f := 11) (g := g2) rfl w2 rfl rfl rfl rfl Try.call11 rfl rfl cl ?_ | refine r_glendCR (f := 12) (g := g2) rfl w2 rfl rfl rfl rfl Try.call12 rfl rfl cs ?_ | refine r_gcall (f := 20) rfl rfl rfl rfl Try.call20 rfl hrs ?_ | refine ⟨flowOk_col (by kernel_rfl), ?_⟩
                | with_reducible refine t_seq ?_ | with_reducible refine t_region ?_ | with_reducible refine c_nil ?_ | with_reducible refine n_then ?_
                | with_reducible refine t_ret ?_ | with_reducible refine t_skip ?_ | with_reducible refine t_exit ?_ | with_reducible refine t_block ?_
                | with_reducible refine n_block ?_ | with_reducible refine e_then ?_ | with_reducible refine x_then ?_ | with_reducible refine x_block ?_ | with_reducible refine t_draw ?_
                | refine r_val rfl rfl True.intro ?_ | refine r_gskip rfl rfl rfl ?_ | refine r_gskip2 rfl rfl rfl ?_ | refine r_gval rfl rfl rfl rfl True.intro ?_
                | refine t_true rfl ?_ | refine t_false rfl ?_
                | ((first | refine t_cond_d rfl (fun _ => ?_) (fun _ => ?_) | refine t_cond_i rfl (fun _ => ?_) (fun _ => ?_) | refine t_cond_j rfl (fun _ => ?_) (fun _ => ?_) | refine t_cond_s rfl (fun _ => ?_) (fun _ => ?_) | refine t_cond_n rfl (fun _ => ?_) (fun _ => ?_) | refine t_cond rfl (fun _ => ?_) (fun _ => ?_) | refine c_split_d rfl rfl (fun _ => ?_) (fun _ => ?_) | refine c_split_i rfl rfl (fun _ => ?_) (fun _ => ?_) | refine c_split_j rfl rfl (fun _ => ?_) (fun _ => ?_) | refine c_split_s rfl rfl (fun _ => ?_) (fun _ => ?_) | refine c_split_n rfl rfl (fun _ => ?_) (fun _ => ?_)) <;> try (first | contradiction | (exfalso; omega)))
                | refine r_val rfl rfl (by (first | omega | exact ⟨rfl, hby⟩ | exact ⟨rfl, hvb⟩ | exact Nat.le_of_ble_eq_true rfl | ((repeat' refine And.intro ?_ ?_) <;> first | omega | rfl | trivial | exact Nat.le_refl _ | exact Nat.le_of_ble_eq_true rfl))) ?_ | refine r_gval rfl rfl rfl rfl (by (first | omega | exact ⟨rfl, hby⟩ | exact ⟨rfl, hvb⟩ | exact Nat.le_of_ble_eq_true rfl | ((repeat' refine And.intro ?_ ?_) <;> first | omega | rfl | trivial | exact Nat.le_refl _ | exact Nat.le_of_ble_eq_true rfl))) ?_
                | refine r_obj rfl rfl (by (first | omega | exact ⟨rfl, hby⟩ | exact ⟨rfl, hvb⟩ | exact Nat.le_of_ble_eq_true rfl | ((repeat' refine And.intro ?_ ?_) <;> first | omega | rfl | trivial | exact Nat.le_refl _ | exact Nat.le_of_ble_eq_true rfl))) ?_ | refine r_sto rfl (by (first | omega | exact ⟨rfl, hby⟩ | exact ⟨rfl, hvb⟩ | exact Nat.le_of_ble_eq_true rfl | ((repeat' refine And.intro ?_ ?_) <;> first | omega | rfl | trivial | exact Nat.le_refl _ | exact Nat.le_of_ble_eq_true rfl))) ?_ | refine r_gobj rfl rfl rfl rfl (by (first | omega | exact ⟨rfl, hby⟩ | exact ⟨rfl, hvb⟩ | exact Nat.le_of_ble_eq_true rfl | ((repeat' refine And.intro ?_ ?_) <;> first | omega | rfl | trivial | exact Nat.le_refl _ | exact Nat.le_of_ble_eq_true rfl))) ?_
                | refine e_hit rfl ?_ | refine e_miss rfl ?_
                | refine ⟨by kernel_rfl, ?_⟩ | ((with_reducible refine c_grd ?_); (fail_if_success (refine c_lit true rfl rfl rfl ?_)); (fail_if_success (refine c_lit false rfl rfl rfl ?_)); refine c_split rfl rfl (fun _ => ?_) (fun _ => ?_)))
              all_goals exact ⟨(i + 1, g2, la, h, m), (⟨H2, by omega, by omega, by omega, by omega, by omega⟩ : PlayI l E0 S0 (i + 1) g2 (la) (h) (m)), by dsimp only; omega, ⟨rfl, rfl, rfl, congrArg (D.i .i64) (by omega), trivial⟩, leOw_C (own2 := [_]) rfl ⟨rfl, trivial⟩, okAll_b (ks := [9000, 8]) w2 (fun k hk => hk) rfl, fun k hk => by rw [hX] at hk; simp at hk⟩
    · skip
      repeat' (first
        | refine r_call (f := 7) rfl rfl Try.call7 rfl live_ctr ?_
        | with_reducible refine t_seq ?_ | with_reducible refine t_region ?_ | with_reducible refine c_nil ?_ | with_reducible refine n_then ?_
        | with_reducible refine t_ret ?_ | with_reducible refine t_skip ?_ | with_reducible refine t_exit ?_ | with_reducible refine t_block ?_
        | with_reducible refine n_block ?_ | with_reducible refine e_then ?_ | with_reducible refine x_then ?_ | with_reducible refine x_block ?_ | with_reducible refine t_draw ?_
        | refine r_val rfl rfl True.intro ?_ | refine r_gskip rfl rfl rfl ?_ | refine r_gskip2 rfl rfl rfl ?_ | refine r_gval rfl rfl rfl rfl True.intro ?_
        | refine t_true rfl ?_ | refine t_false rfl ?_
        | ((first | refine t_cond_d rfl (fun _ => ?_) (fun _ => ?_) | refine t_cond_i rfl (fun _ => ?_) (fun _ => ?_) | refine t_cond_j rfl (fun _ => ?_) (fun _ => ?_) | refine t_cond_s rfl (fun _ => ?_) (fun _ => ?_) | refine t_cond_n rfl (fun _ => ?_) (fun _ => ?_) | refine t_cond rfl (fun _ => ?_) (fun _ => ?_) | refine c_split_d rfl rfl (fun _ => ?_) (fun _ => ?_) | refine c_split_i rfl rfl (fun _ => ?_) (fun _ => ?_) | refine c_split_j rfl rfl (fun _ => ?_) (fun _ => ?_) | refine c_split_s rfl rfl (fun _ => ?_) (fun _ => ?_) | refine c_split_n rfl rfl (fun _ => ?_) (fun _ => ?_)) <;> try (first | contradiction | (exfalso; omega)))
        | refine r_val rfl rfl (by (first | omega | exact Nat.le_of_ble_eq_true rfl | (simp_all; done) | (simp_all; omega) | ((repeat' refine And.intro ?_ ?_) <;> first | omega | rfl | exact Nat.le_refl _ | exact Nat.le_of_ble_eq_true rfl | exact bytesF_one _ | (simp_all; done) | (simp_all; omega)))) ?_ | refine r_gval rfl rfl rfl rfl (by (first | omega | exact Nat.le_of_ble_eq_true rfl | (simp_all; done) | (simp_all; omega) | ((repeat' refine And.intro ?_ ?_) <;> first | omega | rfl | exact Nat.le_refl _ | exact Nat.le_of_ble_eq_true rfl | exact bytesF_one _ | (simp_all; done) | (simp_all; omega)))) ?_
        | refine r_obj rfl rfl (by (first | omega | exact Nat.le_of_ble_eq_true rfl | (simp_all; done) | (simp_all; omega) | ((repeat' refine And.intro ?_ ?_) <;> first | omega | rfl | exact Nat.le_refl _ | exact Nat.le_of_ble_eq_true rfl | exact bytesF_one _ | (simp_all; done) | (simp_all; omega)))) ?_ | refine r_sto rfl (by (first | omega | exact Nat.le_of_ble_eq_true rfl | (simp_all; done) | (simp_all; omega) | ((repeat' refine And.intro ?_ ?_) <;> first | omega | rfl | exact Nat.le_refl _ | exact Nat.le_of_ble_eq_true rfl | exact bytesF_one _ | (simp_all; done) | (simp_all; omega)))) ?_ | refine r_gobj rfl rfl rfl rfl (by (first | omega | exact Nat.le_of_ble_eq_true rfl | (simp_all; done) | (simp_all; omega) | ((repeat' refine And.intro ?_ ?_) <;> first | omega | rfl | exact Nat.le_refl _ | exact Nat.le_of_ble_eq_true rfl | exact bytesF_one _ | (simp_all; done) | (simp_all; omega)))) ?_
        | refine e_hit rfl ?_ | refine e_miss rfl ?_
        | refine ⟨by kernel_rfl, ?_⟩ | refine x_end rfl rfl | refine n_end rfl rfl | ((with_reducible refine c_grd ?_); (fail_if_success (refine c_lit true rfl rfl rfl ?_)); (fail_if_success (refine c_lit false rfl rfl rfl ?_)); refine c_split rfl rfl (fun _ => ?_) (fun _ => ?_)))

end Go.Proofs.Ytghhohckonbkkaa.Flow
