/- CSV: writing into a builder; one field. -/
import Derived.Test.YteidmimpkipcfaaDoorCC17
import Derived.Test.YteidmimpkipcfaaDoorCLibsB
namespace Go.Proofs.YteidmimpkipcfaaDoor.Flow
open Go

/-- A builder (3) whose bytes lie in the row 200. -/
def bl (l : List UInt8) : Ow := [(3, .bld 91 (.gs 200 1 l.length (bytesF l))), (200, .row 5 1 l.length)]

theorem catF_tx (l xs : List UInt8) (g : Nat → List D) (hg : ∀ i, i < xs.length → g i = bytesF xs i) : catF l.length (bytesF l) xs.length g = bytesF (l ++ xs) := by
  funext j
  unfold catF
  by_cases h : j < l.length
  · rw [if_pos h]
    simp [bytesF, List.getD_eq_getElem?_getD, h, List.getElem?_append_left]
  · rw [if_neg h]
    by_cases h2 : j < l.length + xs.length
    · rw [if_pos h2, hg _ (by omega)]
      simp [bytesF, List.getD_eq_getElem?_getD, List.getElem?_append_right (show l.length ≤ j by omega)]
    · rw [if_neg h2]
      simp [bytesF, List.getD_eq_getElem?_getD, List.getElem?_append_right (show l.length ≤ j by omega)]
      rw [List.getElem?_eq_none (show l.length ≤ j by omega), List.getElem?_eq_none (show xs.length ≤ j - l.length by omega)]

theorem gs_tx (k : Nat) (l xs : List UInt8) (m : Nat) (g : Nat → List D) (hm : m = xs.length) (hg : ∀ i, i < xs.length → g i = bytesF xs i) :
    D.gs k 1 (l.length + m) (catF l.length (bytesF l) m g) = D.gs k 1 (l ++ xs).length (bytesF (l ++ xs)) := by
  subst hm
  rw [catF_tx l xs g hg]
  simp

set_option maxRecDepth 100000 in
theorem write_ctr (l s : List UInt8) (hl : l.length + s.length ≤ 1099511627776) :
    CtrO Tryd.prog 69 [.pv 3 0, .s s] (bl l) (.tu [.i .i64 s.length, .v .nilIface]) (bl (l ++ s)) := by
  have hc := copy_ctr 3 (.gs 200 1 l.length (bytesF l)) [(200, .row 5 1 l.length)]
  refine r_methM Tryd.func69 rfl Tryd.ntmps69 Tryd.results69 rfl rfl rfl rfl rfl fun X hL hX => ?_
  repeat' (first
    | with_reducible refine t_seq ?_ | with_reducible refine t_region ?_ | with_reducible refine c_nil ?_ | with_reducible refine n_then ?_
    | with_reducible refine t_ret ?_ | with_reducible refine t_skip ?_ | with_reducible refine t_exit ?_ | with_reducible refine t_block ?_
    | with_reducible refine n_block ?_ | with_reducible refine e_then ?_ | with_reducible refine x_then ?_ | with_reducible refine x_block ?_ | with_reducible refine t_draw ?_
    | refine r_val rfl rfl True.intro ?_ | refine r_gskip rfl rfl rfl ?_ | refine r_gskip2 rfl rfl rfl ?_ | refine r_gval rfl rfl rfl rfl True.intro ?_
    | refine t_true rfl ?_ | refine t_false rfl ?_
    | ((first | refine t_cond_d rfl (fun _ => ?_) (fun _ => ?_) | refine t_cond_i rfl (fun _ => ?_) (fun _ => ?_) | refine t_cond_j rfl (fun _ => ?_) (fun _ => ?_) | refine t_cond_s rfl (fun _ => ?_) (fun _ => ?_) | refine t_cond_n rfl (fun _ => ?_) (fun _ => ?_) | refine t_cond rfl (fun _ => ?_) (fun _ => ?_) | refine c_split_d rfl rfl (fun _ => ?_) (fun _ => ?_) | refine c_split_i rfl rfl (fun _ => ?_) (fun _ => ?_) | refine c_split_j rfl rfl (fun _ => ?_) (fun _ => ?_) | refine c_split_s rfl rfl (fun _ => ?_) (fun _ => ?_) | refine c_split_n rfl rfl (fun _ => ?_) (fun _ => ?_)) <;> try (first | contradiction | (exfalso; omega)))
    | refine r_val rfl rfl (by (first | omega | exact Nat.le_of_ble_eq_true rfl | ((repeat' refine And.intro ?_ ?_) <;> first | omega | rfl | trivial | exact Nat.le_refl _ | exact Nat.le_of_ble_eq_true rfl) | (simp only [Int.toNat_natCast] at *; (repeat' refine And.intro ?_ ?_) <;> first | omega | rfl | trivial | exact Nat.le_refl _ | exact Nat.le_of_ble_eq_true rfl))) ?_ | refine r_gval rfl rfl rfl rfl (by (first | omega | exact Nat.le_of_ble_eq_true rfl | ((repeat' refine And.intro ?_ ?_) <;> first | omega | rfl | trivial | exact Nat.le_refl _ | exact Nat.le_of_ble_eq_true rfl) | (simp only [Int.toNat_natCast] at *; (repeat' refine And.intro ?_ ?_) <;> first | omega | rfl | trivial | exact Nat.le_refl _ | exact Nat.le_of_ble_eq_true rfl))) ?_
    | refine r_obj rfl rfl (by (first | omega | exact Nat.le_of_ble_eq_true rfl | ((repeat' refine And.intro ?_ ?_) <;> first | omega | rfl | trivial | exact Nat.le_refl _ | exact Nat.le_of_ble_eq_true rfl) | (simp only [Int.toNat_natCast] at *; (repeat' refine And.intro ?_ ?_) <;> first | omega | rfl | trivial | exact Nat.le_refl _ | exact Nat.le_of_ble_eq_true rfl))) ?_ | refine r_sto rfl (by (first | omega | exact Nat.le_of_ble_eq_true rfl | ((repeat' refine And.intro ?_ ?_) <;> first | omega | rfl | trivial | exact Nat.le_refl _ | exact Nat.le_of_ble_eq_true rfl) | (simp only [Int.toNat_natCast] at *; (repeat' refine And.intro ?_ ?_) <;> first | omega | rfl | trivial | exact Nat.le_refl _ | exact Nat.le_of_ble_eq_true rfl))) ?_ | refine r_gobj rfl rfl rfl rfl (by (first | omega | exact Nat.le_of_ble_eq_true rfl | ((repeat' refine And.intro ?_ ?_) <;> first | omega | rfl | trivial | exact Nat.le_refl _ | exact Nat.le_of_ble_eq_true rfl) | (simp only [Int.toNat_natCast] at *; (repeat' refine And.intro ?_ ?_) <;> first | omega | rfl | trivial | exact Nat.le_refl _ | exact Nat.le_of_ble_eq_true rfl))) ?_
    | refine e_hit rfl ?_ | refine e_miss rfl ?_
    | refine ⟨by kernel_rfl, ?_⟩ | refine x_endM rfl rfl ?_ | refine n_endM rfl rfl ?_ | refine r_lend2 (f := 108) 3 200 rfl rfl Tryd.call108 rfl rfl rfl rfl rfl rfl rfl rfl rfl hc ?_ | ((with_reducible refine c_grd ?_); (fail_if_success (refine c_lit true rfl rfl rfl ?_)); (fail_if_success (refine c_lit false rfl rfl rfl ?_)); refine c_split rfl rfl (fun _ => ?_) (fun _ => ?_)))
  exact ⟨⟨.inr (congrArg (fun d => some (Own.var [.pv 3 0, d])) (gs_tx 200 l s _ _ rfl (fun _ _ => rfl))), by rw [List.length_append]; rfl, trivial⟩⟩

set_option maxRecDepth 100000 in
theorem writeB_ctr (l : List UInt8) (c : UInt8) (hl : l.length ≤ 1099511627776) :
    CtrO Tryd.prog 67 [.pv 3 0, .i .u8 (c.toNat : Int)] (bl l) (.v .nilIface) (bl (l ++ [c])) := by
  have hc := copy_ctr 3 (.gs 200 1 l.length (bytesF l)) [(200, .row 5 1 l.length)]
  refine r_methM Tryd.func67 rfl Tryd.ntmps67 Tryd.results67 rfl rfl rfl rfl rfl fun X hL hX => ?_
  repeat' (first
    | with_reducible refine t_seq ?_ | with_reducible refine t_region ?_ | with_reducible refine c_nil ?_ | with_reducible refine n_then ?_
    | with_reducible refine t_ret ?_ | with_reducible refine t_skip ?_ | with_reducible refine t_exit ?_ | with_reducible refine t_block ?_
    | with_reducible refine n_block ?_ | with_reducible refine e_then ?_ | with_reducible refine x_then ?_ | with_reducible refine x_block ?_ | with_reducible refine t_draw ?_
    | refine r_val rfl rfl True.intro ?_ | refine r_gskip rfl rfl rfl ?_ | refine r_gskip2 rfl rfl rfl ?_ | refine r_gval rfl rfl rfl rfl True.intro ?_
    | refine t_true rfl ?_ | refine t_false rfl ?_
    | ((first | refine t_cond_d rfl (fun _ => ?_) (fun _ => ?_) | refine t_cond_i rfl (fun _ => ?_) (fun _ => ?_) | refine t_cond_j rfl (fun _ => ?_) (fun _ => ?_) | refine t_cond_s rfl (fun _ => ?_) (fun _ => ?_) | refine t_cond_n rfl (fun _ => ?_) (fun _ => ?_) | refine t_cond rfl (fun _ => ?_) (fun _ => ?_) | refine c_split_d rfl rfl (fun _ => ?_) (fun _ => ?_) | refine c_split_i rfl rfl (fun _ => ?_) (fun _ => ?_) | refine c_split_j rfl rfl (fun _ => ?_) (fun _ => ?_) | refine c_split_s rfl rfl (fun _ => ?_) (fun _ => ?_) | refine c_split_n rfl rfl (fun _ => ?_) (fun _ => ?_)) <;> try (first | contradiction | (exfalso; omega)))
    | refine r_val rfl rfl (by (first | omega | exact Nat.le_of_ble_eq_true rfl | ((repeat' refine And.intro ?_ ?_) <;> first | omega | rfl | trivial | exact Nat.le_refl _ | exact Nat.le_of_ble_eq_true rfl) | (simp only [Int.toNat_natCast] at *; (repeat' refine And.intro ?_ ?_) <;> first | omega | rfl | trivial | exact Nat.le_refl _ | exact Nat.le_of_ble_eq_true rfl))) ?_ | refine r_gval rfl rfl rfl rfl (by (first | omega | exact Nat.le_of_ble_eq_true rfl | ((repeat' refine And.intro ?_ ?_) <;> first | omega | rfl | trivial | exact Nat.le_refl _ | exact Nat.le_of_ble_eq_true rfl) | (simp only [Int.toNat_natCast] at *; (repeat' refine And.intro ?_ ?_) <;> first | omega | rfl | trivial | exact Nat.le_refl _ | exact Nat.le_of_ble_eq_true rfl))) ?_
    | refine r_obj rfl rfl (by (first | omega | exact Nat.le_of_ble_eq_true rfl | ((repeat' refine And.intro ?_ ?_) <;> first | omega | rfl | trivial | exact Nat.le_refl _ | exact Nat.le_of_ble_eq_true rfl) | (simp only [Int.toNat_natCast] at *; (repeat' refine And.intro ?_ ?_) <;> first | omega | rfl | trivial | exact Nat.le_refl _ | exact Nat.le_of_ble_eq_true rfl))) ?_ | refine r_sto rfl (by (first | omega | exact Nat.le_of_ble_eq_true rfl | ((repeat' refine And.intro ?_ ?_) <;> first | omega | rfl | trivial | exact Nat.le_refl _ | exact Nat.le_of_ble_eq_true rfl) | (simp only [Int.toNat_natCast] at *; (repeat' refine And.intro ?_ ?_) <;> first | omega | rfl | trivial | exact Nat.le_refl _ | exact Nat.le_of_ble_eq_true rfl))) ?_ | refine r_gobj rfl rfl rfl rfl (by (first | omega | exact Nat.le_of_ble_eq_true rfl | ((repeat' refine And.intro ?_ ?_) <;> first | omega | rfl | trivial | exact Nat.le_refl _ | exact Nat.le_of_ble_eq_true rfl) | (simp only [Int.toNat_natCast] at *; (repeat' refine And.intro ?_ ?_) <;> first | omega | rfl | trivial | exact Nat.le_refl _ | exact Nat.le_of_ble_eq_true rfl))) ?_
    | refine e_hit rfl ?_ | refine e_miss rfl ?_
    | refine ⟨by kernel_rfl, ?_⟩ | refine x_endM rfl rfl ?_ | refine n_endM rfl rfl ?_ | refine r_lend2 (f := 108) 3 200 rfl rfl Tryd.call108 rfl rfl rfl rfl rfl rfl rfl rfl rfl hc ?_ | ((with_reducible refine c_grd ?_); (fail_if_success (refine c_lit true rfl rfl rfl ?_)); (fail_if_success (refine c_lit false rfl rfl rfl ?_)); refine c_split rfl rfl (fun _ => ?_) (fun _ => ?_)))
  exact ⟨⟨.inr (congrArg (fun d => some (Own.var [.pv 3 0, d])) (gs_tx 200 l [c] _ _ rfl (fun i hi => by
    have : i = 0 := by simpa using hi
    subst this
    rfl))), by rw [List.length_append]; rfl, trivial⟩⟩

set_option maxRecDepth 100000 in
theorem string_ctr (l : List UInt8) (h0 : 0 < l.length) (hl : l.length ≤ 1099511627776) :
    CtrO Tryd.prog 70 [.pv 3 0] (bl l) (.s l) [(3, .gone), (200, .gone)] := by
  have hp : Tryd.prog.underlying 130 = some (.pointer 5) := Tryd.underlying130
  have hz : Tryd.prog.cellsOf 5 = 1 := by kernel_rfl
  refine r_methM Tryd.func70 rfl Tryd.ntmps70 Tryd.results70 rfl rfl rfl rfl rfl fun X hL hX => ?_
  repeat' (first
    | with_reducible refine t_seq ?_ | with_reducible refine t_region ?_ | with_reducible refine c_nil ?_ | with_reducible refine n_then ?_
    | with_reducible refine t_ret ?_ | with_reducible refine t_skip ?_ | with_reducible refine t_exit ?_ | with_reducible refine t_block ?_
    | with_reducible refine n_block ?_ | with_reducible refine e_then ?_ | with_reducible refine x_then ?_ | with_reducible refine x_block ?_ | with_reducible refine t_draw ?_
    | refine r_val rfl rfl True.intro ?_ | refine r_gskip rfl rfl rfl ?_ | refine r_gskip2 rfl rfl rfl ?_ | refine r_gval rfl rfl rfl rfl True.intro ?_
    | refine t_true rfl ?_ | refine t_false rfl ?_
    | ((first | refine t_cond_d rfl (fun _ => ?_) (fun _ => ?_) | refine t_cond_i rfl (fun _ => ?_) (fun _ => ?_) | refine t_cond_j rfl (fun _ => ?_) (fun _ => ?_) | refine t_cond_s rfl (fun _ => ?_) (fun _ => ?_) | refine t_cond_n rfl (fun _ => ?_) (fun _ => ?_) | refine t_cond rfl (fun _ => ?_) (fun _ => ?_) | refine c_split_d rfl rfl (fun _ => ?_) (fun _ => ?_) | refine c_split_i rfl rfl (fun _ => ?_) (fun _ => ?_) | refine c_split_j rfl rfl (fun _ => ?_) (fun _ => ?_) | refine c_split_s rfl rfl (fun _ => ?_) (fun _ => ?_) | refine c_split_n rfl rfl (fun _ => ?_) (fun _ => ?_)) <;> try (first | contradiction | (exfalso; omega)))
    | refine r_val rfl rfl (by (first | omega | exact Nat.le_of_ble_eq_true rfl | ((repeat' refine And.intro ?_ ?_) <;> first | omega | rfl | trivial | exact Nat.le_refl _ | exact Nat.le_of_ble_eq_true rfl) | (simp only [Int.toNat_natCast] at *; (repeat' refine And.intro ?_ ?_) <;> first | omega | rfl | trivial | exact Nat.le_refl _ | exact Nat.le_of_ble_eq_true rfl))) ?_ | refine r_gval rfl rfl rfl rfl (by (first | omega | exact Nat.le_of_ble_eq_true rfl | ((repeat' refine And.intro ?_ ?_) <;> first | omega | rfl | trivial | exact Nat.le_refl _ | exact Nat.le_of_ble_eq_true rfl) | (simp only [Int.toNat_natCast] at *; (repeat' refine And.intro ?_ ?_) <;> first | omega | rfl | trivial | exact Nat.le_refl _ | exact Nat.le_of_ble_eq_true rfl))) ?_
    | refine r_obj rfl rfl (by (first | omega | exact Nat.le_of_ble_eq_true rfl | ((repeat' refine And.intro ?_ ?_) <;> first | omega | rfl | trivial | exact Nat.le_refl _ | exact Nat.le_of_ble_eq_true rfl) | (simp only [Int.toNat_natCast] at *; (repeat' refine And.intro ?_ ?_) <;> first | omega | rfl | trivial | exact Nat.le_refl _ | exact Nat.le_of_ble_eq_true rfl))) ?_ | refine r_sto rfl (by (first | omega | exact Nat.le_of_ble_eq_true rfl | ((repeat' refine And.intro ?_ ?_) <;> first | omega | rfl | trivial | exact Nat.le_refl _ | exact Nat.le_of_ble_eq_true rfl) | (simp only [Int.toNat_natCast] at *; (repeat' refine And.intro ?_ ?_) <;> first | omega | rfl | trivial | exact Nat.le_refl _ | exact Nat.le_of_ble_eq_true rfl))) ?_ | refine r_gobj rfl rfl rfl rfl (by (first | omega | exact Nat.le_of_ble_eq_true rfl | ((repeat' refine And.intro ?_ ?_) <;> first | omega | rfl | trivial | exact Nat.le_refl _ | exact Nat.le_of_ble_eq_true rfl) | (simp only [Int.toNat_natCast] at *; (repeat' refine And.intro ?_ ?_) <;> first | omega | rfl | trivial | exact Nat.le_refl _ | exact Nat.le_of_ble_eq_true rfl))) ?_
    | refine e_hit rfl ?_ | refine e_miss rfl ?_
    | refine ⟨by kernel_rfl, ?_⟩ | refine x_endM rfl rfl ?_ | refine n_endM rfl rfl ?_ | refine r_bload rfl rfl rfl rfl ?_ | refine r_sdata rfl rfl rfl h0 ?_ | refine r_ustr 3 l rfl rfl rfl rfl hp hz rfl rfl h0 ?_ | ((with_reducible refine c_grd ?_); (fail_if_success (refine c_lit true rfl rfl rfl ?_)); (fail_if_success (refine c_lit false rfl rfl rfl ?_)); refine c_split rfl rfl (fun _ => ?_) (fun _ => ?_)))
  exact ⟨⟨⟨_, rfl⟩, ⟨_, rfl⟩, trivial⟩⟩

set_option maxRecDepth 100000 in
theorem string0_ctr : CtrO Tryd.prog 70 [.pv 3 0] [(3, .bld 91 .nilS)] (.s []) [(3, .gone)] := by
  refine r_methM Tryd.func70 rfl Tryd.ntmps70 Tryd.results70 rfl rfl rfl rfl rfl fun X hL hX => ?_
  repeat' (first
    | with_reducible refine t_seq ?_ | with_reducible refine t_region ?_ | with_reducible refine c_nil ?_ | with_reducible refine n_then ?_
    | with_reducible refine t_ret ?_ | with_reducible refine t_skip ?_ | with_reducible refine t_exit ?_ | with_reducible refine t_block ?_
    | with_reducible refine n_block ?_ | with_reducible refine e_then ?_ | with_reducible refine x_then ?_ | with_reducible refine x_block ?_ | with_reducible refine t_draw ?_
    | refine r_val rfl rfl True.intro ?_ | refine r_gskip rfl rfl rfl ?_ | refine r_gskip2 rfl rfl rfl ?_ | refine r_gval rfl rfl rfl rfl True.intro ?_
    | refine t_true rfl ?_ | refine t_false rfl ?_
    | ((first | refine t_cond_d rfl (fun _ => ?_) (fun _ => ?_) | refine t_cond_i rfl (fun _ => ?_) (fun _ => ?_) | refine t_cond_j rfl (fun _ => ?_) (fun _ => ?_) | refine t_cond_s rfl (fun _ => ?_) (fun _ => ?_) | refine t_cond_n rfl (fun _ => ?_) (fun _ => ?_) | refine t_cond rfl (fun _ => ?_) (fun _ => ?_) | refine c_split_d rfl rfl (fun _ => ?_) (fun _ => ?_) | refine c_split_i rfl rfl (fun _ => ?_) (fun _ => ?_) | refine c_split_j rfl rfl (fun _ => ?_) (fun _ => ?_) | refine c_split_s rfl rfl (fun _ => ?_) (fun _ => ?_) | refine c_split_n rfl rfl (fun _ => ?_) (fun _ => ?_)) <;> try (first | contradiction | (exfalso; omega)))
    | refine r_val rfl rfl (by (first | omega | exact Nat.le_of_ble_eq_true rfl | ((repeat' refine And.intro ?_ ?_) <;> first | omega | rfl | trivial | exact Nat.le_refl _ | exact Nat.le_of_ble_eq_true rfl) | (simp only [Int.toNat_natCast] at *; (repeat' refine And.intro ?_ ?_) <;> first | omega | rfl | trivial | exact Nat.le_refl _ | exact Nat.le_of_ble_eq_true rfl))) ?_ | refine r_gval rfl rfl rfl rfl (by (first | omega | exact Nat.le_of_ble_eq_true rfl | ((repeat' refine And.intro ?_ ?_) <;> first | omega | rfl | trivial | exact Nat.le_refl _ | exact Nat.le_of_ble_eq_true rfl) | (simp only [Int.toNat_natCast] at *; (repeat' refine And.intro ?_ ?_) <;> first | omega | rfl | trivial | exact Nat.le_refl _ | exact Nat.le_of_ble_eq_true rfl))) ?_
    | refine r_obj rfl rfl (by (first | omega | exact Nat.le_of_ble_eq_true rfl | ((repeat' refine And.intro ?_ ?_) <;> first | omega | rfl | trivial | exact Nat.le_refl _ | exact Nat.le_of_ble_eq_true rfl) | (simp only [Int.toNat_natCast] at *; (repeat' refine And.intro ?_ ?_) <;> first | omega | rfl | trivial | exact Nat.le_refl _ | exact Nat.le_of_ble_eq_true rfl))) ?_ | refine r_sto rfl (by (first | omega | exact Nat.le_of_ble_eq_true rfl | ((repeat' refine And.intro ?_ ?_) <;> first | omega | rfl | trivial | exact Nat.le_refl _ | exact Nat.le_of_ble_eq_true rfl) | (simp only [Int.toNat_natCast] at *; (repeat' refine And.intro ?_ ?_) <;> first | omega | rfl | trivial | exact Nat.le_refl _ | exact Nat.le_of_ble_eq_true rfl))) ?_ | refine r_gobj rfl rfl rfl rfl (by (first | omega | exact Nat.le_of_ble_eq_true rfl | ((repeat' refine And.intro ?_ ?_) <;> first | omega | rfl | trivial | exact Nat.le_refl _ | exact Nat.le_of_ble_eq_true rfl) | (simp only [Int.toNat_natCast] at *; (repeat' refine And.intro ?_ ?_) <;> first | omega | rfl | trivial | exact Nat.le_refl _ | exact Nat.le_of_ble_eq_true rfl))) ?_
    | refine e_hit rfl ?_ | refine e_miss rfl ?_
    | refine ⟨by kernel_rfl, ?_⟩ | refine x_endM rfl rfl ?_ | refine n_endM rfl rfl ?_ | refine r_bload rfl rfl rfl rfl ?_ | refine r_sdata0 rfl rfl ?_ | refine r_ustr0 rfl rfl rfl ?_ | ((with_reducible refine c_grd ?_); (fail_if_success (refine c_lit true rfl rfl rfl ?_)); (fail_if_success (refine c_lit false rfl rfl rfl ?_)); refine c_split rfl rfl (fun _ => ?_) (fun _ => ?_)))
  exact ⟨⟨⟨_, rfl⟩, trivial⟩⟩

end Go.Proofs.YteidmimpkipcfaaDoor.Flow
