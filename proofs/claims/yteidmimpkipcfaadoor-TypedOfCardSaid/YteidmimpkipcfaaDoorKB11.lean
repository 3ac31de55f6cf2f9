/- The texts BD13, BU1, BU2, BU3, BU4, BU5, BU6, one behind the other. -/
import Derived.Test.YteidmimpkipcfaaDoorKB5
import Derived.Test.YteidmimpkipcfaaDoorKB7
import Derived.Test.YteidmimpkipcfaaDoorKB8
import Derived.Test.YteidmimpkipcfaaDoorKB10
import Derived.Laws.BitsLemmas
/- DEC: the whole number that a decimal is, by both. -/
namespace Go.Proofs.YteidmimpkipcfaaDoor.Flow
open Go

theorem digs_zs {s : List UInt8} (hd : ∀ c ∈ s, isD c = true) (n : Nat) : ∀ c ∈ s ++ zs n, isD c = true := fun c hc => by
  rcases List.mem_append.1 hc with hc | hc
  · exact hd c hc
  · rw [List.eq_of_mem_replicate hc]
    rfl

theorem mem_digs {s : List UInt8} (h : digs s) : ∀ c ∈ s, isD c = true := fun c hc => by
  obtain ⟨i, hi, rfl⟩ := List.getElem_of_mem hc
  have := h i hi
  unfold at' at this
  simp only [Int.toNat_natCast, List.getD_eq_getElem?_getD, List.getElem?_eq_getElem hi, Option.getD_some] at this
  exact isD_iff.2 this

theorem num_take {ds : List UInt8} (hd : ∀ c ∈ ds, isD c = true) {i : Nat} (h : i < ds.length) : ((numL (ds.take (i + 1)) : Nat) : Int) = 10 * (numL (ds.take i) : Nat) + (at' ds i - 48) ∧ 48 ≤ at' ds i ∧ at' ds i ≤ 57 := by
  have hm : ds.getD i 0 ∈ ds := by
    simp only [List.getD_eq_getElem?_getD, List.getElem?_eq_getElem h, Option.getD_some]
    exact List.getElem_mem h
  have h1 := isD_iff.1 (hd _ hm)
  refine ⟨?_, h1⟩
  rw [take_snoc ds i h, numL_snoc]
  show _ = 10 * _ + (((ds.getD i 0).toNat : Int) - 48)
  omega

theorem num_lt {ds : List UInt8} (hd : ∀ c ∈ ds, isD c = true) (hl : ds.length ≤ 19) (i : Nat) : ((numL (ds.take i) : Nat) : Int) < 10000000000000000000 := by
  have h1 := numL_lt (ds.take i) fun c hc => hd c (List.mem_of_mem_take hc)
  have h2 : 10 ^ (ds.take i).length ≤ 10 ^ 19 := Nat.pow_le_pow_right (by decide) (by rw [List.length_take]; omega)
  omega

theorem intF_1 {neg : Bool} {s : List UInt8} {e : Int} (h : ¬ RightP neg s e ∨ e < 0 ∨ 19 < s.length + e) : intF neg s e = (0, false) := if_pos h
theorem intF_2 {neg : Bool} {s : List UInt8} {e : Int} (h : ¬ (¬ RightP neg s e ∨ e < 0 ∨ 19 < s.length + e)) (h2 : 4611686018427387904 < ((numL (s ++ zs e.toNat) : Nat) : Int)) : intF neg s e = (0, false) := by
  unfold intF
  rw [if_neg h, if_pos (by omega)]
theorem intF_3 {neg : Bool} {s : List UInt8} {e : Int} (h : ¬ (¬ RightP neg s e ∨ e < 0 ∨ 19 < s.length + e)) (h2 : ¬ 4611686018427387904 < ((numL (s ++ zs e.toNat) : Nat) : Int)) (h3 : neg = true) : intF neg s e = (-((numL (s ++ zs e.toNat) : Nat) : Int), true) := by
  unfold intF
  rw [if_neg h, if_neg (by omega), if_pos h3]
theorem intF_4 {neg : Bool} {s : List UInt8} {e : Int} (h : ¬ (¬ RightP neg s e ∨ e < 0 ∨ 19 < s.length + e)) (h2 : ¬ 4611686018427387904 < ((numL (s ++ zs e.toNat) : Nat) : Int)) (h3 : ¬ neg = true) : intF neg s e = (((numL (s ++ zs e.toNat) : Nat) : Int), true) := by
  unfold intF
  rw [if_neg h, if_neg (by omega), if_neg h3]

theorem int_bad (neg : Bool) (s : List UInt8) (e : Int) (hs : s.length ≤ 1048576) (h : ¬ RightP neg s e) : Ctr Tryd.prog 54 [dcD neg s e] (.tu [.i .i64 0, .b false]) := by
  have c1 := right_ctr neg s e (by omega)
  rw [rightB_not h] at c1
  refine r_fun Tryd.func54 rfl Tryd.ntmps54 Tryd.results54 rfl rfl fun X hL hX => ?_
  repeat' (first
    | with_reducible refine t_seq ?_ | with_reducible refine t_region ?_ | with_reducible refine c_nil ?_ | with_reducible refine n_then ?_
    | with_reducible refine t_ret ?_ | with_reducible refine t_skip ?_ | with_reducible refine t_exit ?_ | with_reducible refine t_block ?_
    | with_reducible refine n_block ?_ | with_reducible refine e_then ?_ | with_reducible refine x_then ?_ | with_reducible refine x_block ?_ | with_reducible refine t_draw ?_
    | refine r_val rfl rfl True.intro ?_ | refine r_gskip rfl rfl rfl ?_ | refine r_gskip2 rfl rfl rfl ?_ | refine r_gval rfl rfl rfl rfl True.intro ?_
    | refine t_true rfl ?_ | refine t_false rfl ?_
    | ((first | refine t_cond_d rfl (fun _ => ?_) (fun _ => ?_) | refine t_cond_i rfl (fun _ => ?_) (fun _ => ?_) | refine t_cond_j rfl (fun _ => ?_) (fun _ => ?_) | refine t_cond_s rfl (fun _ => ?_) (fun _ => ?_) | refine t_cond_n rfl (fun _ => ?_) (fun _ => ?_) | refine t_cond rfl (fun _ => ?_) (fun _ => ?_) | refine c_split_d rfl rfl (fun _ => ?_) (fun _ => ?_) | refine c_split_i rfl rfl (fun _ => ?_) (fun _ => ?_) | refine c_split_j rfl rfl (fun _ => ?_) (fun _ => ?_) | refine c_split_s rfl rfl (fun _ => ?_) (fun _ => ?_) | refine c_split_n rfl rfl (fun _ => ?_) (fun _ => ?_)) <;> try (first | (rename_i hz; exact Bool.noConfusion (show true = false from hz)) | (rename_i hz; exact Bool.noConfusion (show false = true from hz)) | (exfalso; omega)))
    | refine r_val rfl rfl (by (first | omega | exact Nat.le_of_ble_eq_true rfl | (simp only [wrap_u8, IntKind.wrap_i64, IntKind.wrap_i32, wrap_u32', wrap_u64', InI]; (repeat' refine And.intro ?_ ?_) <;> omega) | ((repeat' refine And.intro ?_ ?_) <;> first | omega | rfl | exact Nat.le_refl _ | exact Nat.le_of_ble_eq_true rfl | exact bytesF_one _) | (simp_all; done) | (simp_all; omega))) ?_ | refine r_gval rfl rfl rfl rfl (by (first | omega | exact Nat.le_of_ble_eq_true rfl | (simp only [wrap_u8, IntKind.wrap_i64, IntKind.wrap_i32, wrap_u32', wrap_u64', InI]; (repeat' refine And.intro ?_ ?_) <;> omega) | ((repeat' refine And.intro ?_ ?_) <;> first | omega | rfl | exact Nat.le_refl _ | exact Nat.le_of_ble_eq_true rfl | exact bytesF_one _) | (simp_all; done) | (simp_all; omega))) ?_
    | refine r_obj rfl rfl (by (first | omega | exact Nat.le_of_ble_eq_true rfl | (simp only [wrap_u8, IntKind.wrap_i64, IntKind.wrap_i32, wrap_u32', wrap_u64', InI]; (repeat' refine And.intro ?_ ?_) <;> omega) | ((repeat' refine And.intro ?_ ?_) <;> first | omega | rfl | exact Nat.le_refl _ | exact Nat.le_of_ble_eq_true rfl | exact bytesF_one _) | (simp_all; done) | (simp_all; omega))) ?_ | refine r_sto rfl (by (first | omega | exact Nat.le_of_ble_eq_true rfl | (simp only [wrap_u8, IntKind.wrap_i64, IntKind.wrap_i32, wrap_u32', wrap_u64', InI]; (repeat' refine And.intro ?_ ?_) <;> omega) | ((repeat' refine And.intro ?_ ?_) <;> first | omega | rfl | exact Nat.le_refl _ | exact Nat.le_of_ble_eq_true rfl | exact bytesF_one _) | (simp_all; done) | (simp_all; omega))) ?_ | refine r_gobj rfl rfl rfl rfl (by (first | omega | exact Nat.le_of_ble_eq_true rfl | (simp only [wrap_u8, IntKind.wrap_i64, IntKind.wrap_i32, wrap_u32', wrap_u64', InI]; (repeat' refine And.intro ?_ ?_) <;> omega) | ((repeat' refine And.intro ?_ ?_) <;> first | omega | rfl | exact Nat.le_refl _ | exact Nat.le_of_ble_eq_true rfl | exact bytesF_one _) | (simp_all; done) | (simp_all; omega))) ?_
    | refine e_hit rfl ?_ | refine e_miss rfl ?_
    | refine ⟨by kernel_rfl, ?_⟩ | refine x_end rfl ?_ | refine r_call (f := 46) rfl rfl Tryd.call46 rfl c1 ?_ | ((with_reducible refine c_grd ?_); (fail_if_success (refine c_lit true rfl rfl rfl ?_)); (fail_if_success (refine c_lit false rfl rfl rfl ?_)); refine c_split rfl rfl (fun _ => ?_) (fun _ => ?_)))
  all_goals rfl

theorem rint_bad (neg : Bool) (s : List UInt8) (e : Int) (hs : s.length ≤ 1048576) (h : ¬ RightP neg s e) : Ctr Tryd.prog 58 [dcD neg s e] (.tu [.i .i64 0, .b false]) := by
  have c1 := rright_ctr neg s e (by omega)
  rw [rightB_not h] at c1
  refine r_fun Tryd.func58 rfl Tryd.ntmps58 Tryd.results58 rfl rfl fun X hL hX => ?_
  repeat' (first
    | with_reducible refine t_seq ?_ | with_reducible refine t_region ?_ | with_reducible refine c_nil ?_ | with_reducible refine n_then ?_
    | with_reducible refine t_ret ?_ | with_reducible refine t_skip ?_ | with_reducible refine t_exit ?_ | with_reducible refine t_block ?_
    | with_reducible refine n_block ?_ | with_reducible refine e_then ?_ | with_reducible refine x_then ?_ | with_reducible refine x_block ?_ | with_reducible refine t_draw ?_
    | refine r_val rfl rfl True.intro ?_ | refine r_gskip rfl rfl rfl ?_ | refine r_gskip2 rfl rfl rfl ?_ | refine r_gval rfl rfl rfl rfl True.intro ?_
    | refine t_true rfl ?_ | refine t_false rfl ?_
    | ((first | refine t_cond_d rfl (fun _ => ?_) (fun _ => ?_) | refine t_cond_i rfl (fun _ => ?_) (fun _ => ?_) | refine t_cond_j rfl (fun _ => ?_) (fun _ => ?_) | refine t_cond_s rfl (fun _ => ?_) (fun _ => ?_) | refine t_cond_n rfl (fun _ => ?_) (fun _ => ?_) | refine t_cond rfl (fun _ => ?_) (fun _ => ?_) | refine c_split_d rfl rfl (fun _ => ?_) (fun _ => ?_) | refine c_split_i rfl rfl (fun _ => ?_) (fun _ => ?_) | refine c_split_j rfl rfl (fun _ => ?_) (fun _ => ?_) | refine c_split_s rfl rfl (fun _ => ?_) (fun _ => ?_) | refine c_split_n rfl rfl (fun _ => ?_) (fun _ => ?_)) <;> try (first | (rename_i hz; exact Bool.noConfusion (show true = false from hz)) | (rename_i hz; exact Bool.noConfusion (show false = true from hz)) | (exfalso; omega)))
    | refine r_val rfl rfl (by (first | omega | exact Nat.le_of_ble_eq_true rfl | (simp only [wrap_u8, IntKind.wrap_i64, IntKind.wrap_i32, wrap_u32', wrap_u64', InI]; (repeat' refine And.intro ?_ ?_) <;> omega) | ((repeat' refine And.intro ?_ ?_) <;> first | omega | rfl | exact Nat.le_refl _ | exact Nat.le_of_ble_eq_true rfl | exact bytesF_one _) | (simp_all; done) | (simp_all; omega))) ?_ | refine r_gval rfl rfl rfl rfl (by (first | omega | exact Nat.le_of_ble_eq_true rfl | (simp only [wrap_u8, IntKind.wrap_i64, IntKind.wrap_i32, wrap_u32', wrap_u64', InI]; (repeat' refine And.intro ?_ ?_) <;> omega) | ((repeat' refine And.intro ?_ ?_) <;> first | omega | rfl | exact Nat.le_refl _ | exact Nat.le_of_ble_eq_true rfl | exact bytesF_one _) | (simp_all; done) | (simp_all; omega))) ?_
    | refine r_obj rfl rfl (by (first | omega | exact Nat.le_of_ble_eq_true rfl | (simp only [wrap_u8, IntKind.wrap_i64, IntKind.wrap_i32, wrap_u32', wrap_u64', InI]; (repeat' refine And.intro ?_ ?_) <;> omega) | ((repeat' refine And.intro ?_ ?_) <;> first | omega | rfl | exact Nat.le_refl _ | exact Nat.le_of_ble_eq_true rfl | exact bytesF_one _) | (simp_all; done) | (simp_all; omega))) ?_ | refine r_sto rfl (by (first | omega | exact Nat.le_of_ble_eq_true rfl | (simp only [wrap_u8, IntKind.wrap_i64, IntKind.wrap_i32, wrap_u32', wrap_u64', InI]; (repeat' refine And.intro ?_ ?_) <;> omega) | ((repeat' refine And.intro ?_ ?_) <;> first | omega | rfl | exact Nat.le_refl _ | exact Nat.le_of_ble_eq_true rfl | exact bytesF_one _) | (simp_all; done) | (simp_all; omega))) ?_ | refine r_gobj rfl rfl rfl rfl (by (first | omega | exact Nat.le_of_ble_eq_true rfl | (simp only [wrap_u8, IntKind.wrap_i64, IntKind.wrap_i32, wrap_u32', wrap_u64', InI]; (repeat' refine And.intro ?_ ?_) <;> omega) | ((repeat' refine And.intro ?_ ?_) <;> first | omega | rfl | exact Nat.le_refl _ | exact Nat.le_of_ble_eq_true rfl | exact bytesF_one _) | (simp_all; done) | (simp_all; omega))) ?_
    | refine e_hit rfl ?_ | refine e_miss rfl ?_
    | refine ⟨by kernel_rfl, ?_⟩ | refine x_end rfl ?_ | refine r_call (f := 42) rfl rfl Tryd.call42 rfl c1 ?_ | ((with_reducible refine c_grd ?_); (fail_if_success (refine c_lit true rfl rfl rfl ?_)); (fail_if_success (refine c_lit false rfl rfl rfl ?_)); refine c_split rfl rfl (fun _ => ?_) (fun _ => ?_)))
  all_goals rfl

set_option maxHeartbeats 1000000 in
theorem int_ctr (neg : Bool) (s : List UInt8) (e : Int) (hs : s.length ≤ 1048576) : Ctr Tryd.prog 54 [dcD neg s e] (.tu [.i .i64 (intF neg s e).1, .b (intF neg s e).2]) := by
  by_cases h : RightP neg s e
  case neg =>
    rw [intF_1 (.inl h)]
    exact int_bad neg s e hs h
  obtain ⟨b1, b2, b3, b4⟩ := h.bounds
  have c1 := right_ctr neg s e (by omega)
  rw [rightB_iff.2 h] at c1
  have c2 := fun h0 => rep_ctr e h0 (by omega)
  have hds := digs_zs (mem_digs b4) e.toNat
  have hlen : (s ++ zs e.toNat).length = s.length + e.toNat := by simp
  have I1 : (e < 0 ∨ 19 < s.length + e) → intF neg s e = (0, false) := fun h2 => intF_1 (.inr h2)
  have hno : ¬ (e < 0 ∨ 19 < s.length + e) → ¬ (¬ RightP neg s e ∨ e < 0 ∨ 19 < s.length + e) := fun h2 h3 => h3.elim (fun h4 => h4 h) h2
  have I2 := fun h2 => intF_2 (neg := neg) (s := s) (e := e) (hno h2)
  have I3 := fun h2 => intF_3 (neg := neg) (s := s) (e := e) (hno h2)
  have I4 := fun h2 => intF_4 (neg := neg) (s := s) (e := e) (hno h2)
  clear h hno b4
  generalize intF neg s e = R at *
  have lz : (zs e.toNat).length = e.toNat := by simp
  refine r_fun Tryd.func54 rfl Tryd.ntmps54 Tryd.results54 rfl rfl fun X hL hX => ?_
  repeat' (first
    | with_reducible refine t_seq ?_ | with_reducible refine t_region ?_ | with_reducible refine c_nil ?_ | with_reducible refine n_then ?_
    | with_reducible refine t_ret ?_ | with_reducible refine t_skip ?_ | with_reducible refine t_exit ?_ | with_reducible refine t_block ?_
    | with_reducible refine n_block ?_ | with_reducible refine e_then ?_ | with_reducible refine x_then ?_ | with_reducible refine x_block ?_ | with_reducible refine t_draw ?_
    | refine r_val rfl rfl True.intro ?_ | refine r_gskip rfl rfl rfl ?_ | refine r_gskip2 rfl rfl rfl ?_ | refine r_gval rfl rfl rfl rfl True.intro ?_
    | refine t_true rfl ?_ | refine t_false rfl ?_
    | ((first | refine t_cond_d rfl (fun _ => ?_) (fun _ => ?_) | refine t_cond_i rfl (fun _ => ?_) (fun _ => ?_) | refine t_cond_j rfl (fun _ => ?_) (fun _ => ?_) | refine t_cond_s rfl (fun _ => ?_) (fun _ => ?_) | refine t_cond_n rfl (fun _ => ?_) (fun _ => ?_) | refine t_cond rfl (fun _ => ?_) (fun _ => ?_) | refine c_split_d rfl rfl (fun _ => ?_) (fun _ => ?_) | refine c_split_i rfl rfl (fun _ => ?_) (fun _ => ?_) | refine c_split_j rfl rfl (fun _ => ?_) (fun _ => ?_) | refine c_split_s rfl rfl (fun _ => ?_) (fun _ => ?_) | refine c_split_n rfl rfl (fun _ => ?_) (fun _ => ?_)) <;> try (first | (rename_i hz; exact Bool.noConfusion (show true = false from hz)) | (rename_i hz; exact Bool.noConfusion (show false = true from hz)) | (exfalso; omega)))
    | refine r_val rfl rfl (by (first | (rw [lz]; omega) | omega | exact Nat.le_of_ble_eq_true rfl | (simp only [wrap_u8, IntKind.wrap_i64, IntKind.wrap_i32, wrap_u32', wrap_u64', InI]; (repeat' refine And.intro ?_ ?_) <;> omega) | ((repeat' refine And.intro ?_ ?_) <;> first | omega | rfl | exact Nat.le_refl _ | exact Nat.le_of_ble_eq_true rfl | exact bytesF_one _) | (simp_all; done) | (simp_all; omega))) ?_ | refine r_gval rfl rfl rfl rfl (by (first | (rw [lz]; omega) | omega | exact Nat.le_of_ble_eq_true rfl | (simp only [wrap_u8, IntKind.wrap_i64, IntKind.wrap_i32, wrap_u32', wrap_u64', InI]; (repeat' refine And.intro ?_ ?_) <;> omega) | ((repeat' refine And.intro ?_ ?_) <;> first | omega | rfl | exact Nat.le_refl _ | exact Nat.le_of_ble_eq_true rfl | exact bytesF_one _) | (simp_all; done) | (simp_all; omega))) ?_
    | refine r_obj rfl rfl (by (first | (rw [lz]; omega) | omega | exact Nat.le_of_ble_eq_true rfl | (simp only [wrap_u8, IntKind.wrap_i64, IntKind.wrap_i32, wrap_u32', wrap_u64', InI]; (repeat' refine And.intro ?_ ?_) <;> omega) | ((repeat' refine And.intro ?_ ?_) <;> first | omega | rfl | exact Nat.le_refl _ | exact Nat.le_of_ble_eq_true rfl | exact bytesF_one _) | (simp_all; done) | (simp_all; omega))) ?_ | refine r_sto rfl (by (first | (rw [lz]; omega) | omega | exact Nat.le_of_ble_eq_true rfl | (simp only [wrap_u8, IntKind.wrap_i64, IntKind.wrap_i32, wrap_u32', wrap_u64', InI]; (repeat' refine And.intro ?_ ?_) <;> omega) | ((repeat' refine And.intro ?_ ?_) <;> first | omega | rfl | exact Nat.le_refl _ | exact Nat.le_of_ble_eq_true rfl | exact bytesF_one _) | (simp_all; done) | (simp_all; omega))) ?_ | refine r_gobj rfl rfl rfl rfl (by (first | (rw [lz]; omega) | omega | exact Nat.le_of_ble_eq_true rfl | (simp only [wrap_u8, IntKind.wrap_i64, IntKind.wrap_i32, wrap_u32', wrap_u64', InI]; (repeat' refine And.intro ?_ ?_) <;> omega) | ((repeat' refine And.intro ?_ ?_) <;> first | omega | rfl | exact Nat.le_refl _ | exact Nat.le_of_ble_eq_true rfl | exact bytesF_one _) | (simp_all; done) | (simp_all; omega))) ?_
    | refine e_hit rfl ?_ | refine e_miss rfl ?_
    | refine ⟨by kernel_rfl, ?_⟩ | refine x_end rfl ?_ | refine r_call (f := 46) rfl rfl Tryd.call46 rfl c1 ?_ | refine r_call (f := 83) rfl rfl Tryd.call83 rfl (c2 (by omega)) ?_ | refine r_range rfl rfl rfl rfl ?_ | ((with_reducible refine c_grd ?_); (fail_if_success (refine c_lit true rfl rfl rfl ?_)); (fail_if_success (refine c_lit false rfl rfl rfl ?_)); refine c_split rfl rfl (fun _ => ?_) (fun _ => ?_)))
  · rw [I1 (by omega)]
  · rw [I1 (by omega)]
  rename_i h1 h2
  replace I2 := I2 (by omega)
  replace I3 := I3 (by omega)
  replace I4 := I4 (by omega)
  have hl19 : (s ++ zs e.toNat).length ≤ 19 := by omega
  have hnum := num_lt hds hl19
  have htake := fun i h => num_take hds (i := i) h
  clear I1 c1 c2 hds
  generalize s ++ zs e.toNat = ds at *
  refine T.loop hL (fun k : Nat => [(1, .pv 1 0), (4, .i .u64 (numL (ds.take k) : Nat)), (30, .pv 30 0)]) (fun k => [(1, .var [.b neg, .s s, .i .i64 e]), (30, .ob (.stringIter ⟨ds.toArray⟩ k))]) (fun k => k ≤ ds.length) (fun k => ds.length - k) 0 (Nat.zero_le _)
    ⟨⟨rfl, rfl, rfl, trivial⟩, ⟨rfl, rfl, trivial⟩, rfl, by rw [hX]; intro k hk; cases hk⟩ ?_
  intro k hk
  by_cases hlt : k < ds.length
  · obtain ⟨e1, e2, e3⟩ := htake k hlt
    have n0 := hnum k
    have n1 := hnum (k + 1)
    rw [e1] at n1
    have ew : IntKind.u64.wrap (IntKind.u64.wrap (10 * ((numL (ds.take k) : Nat) : Int)) + IntKind.u64.wrap (IntKind.i32.wrap (at' ds k - 48))) = ((numL (ds.take (k + 1)) : Nat) : Int) := by
      rw [e1]
      simp only [IntKind.wrap_i32, wrap_u64']
      omega
    clear I2 I3 I4 hnum htake
    repeat' (first
      | with_reducible refine t_seq ?_ | with_reducible refine t_region ?_ | with_reducible refine c_nil ?_ | with_reducible refine n_then ?_
      | with_reducible refine t_ret ?_ | with_reducible refine t_skip ?_ | with_reducible refine t_exit ?_ | with_reducible refine t_block ?_
      | with_reducible refine n_block ?_ | with_reducible refine e_then ?_ | with_reducible refine x_then ?_ | with_reducible refine x_block ?_ | with_reducible refine t_draw ?_
      | refine r_val rfl rfl True.intro ?_ | refine r_gskip rfl rfl rfl ?_ | refine r_gskip2 rfl rfl rfl ?_ | refine r_gval rfl rfl rfl rfl True.intro ?_
      | refine t_true rfl ?_ | refine t_false rfl ?_
      | ((first | refine t_cond_d rfl (fun _ => ?_) (fun _ => ?_) | refine t_cond_i rfl (fun _ => ?_) (fun _ => ?_) | refine t_cond_j rfl (fun _ => ?_) (fun _ => ?_) | refine t_cond_s rfl (fun _ => ?_) (fun _ => ?_) | refine t_cond_n rfl (fun _ => ?_) (fun _ => ?_) | refine t_cond rfl (fun _ => ?_) (fun _ => ?_) | refine c_split_d rfl rfl (fun _ => ?_) (fun _ => ?_) | refine c_split_i rfl rfl (fun _ => ?_) (fun _ => ?_) | refine c_split_j rfl rfl (fun _ => ?_) (fun _ => ?_) | refine c_split_s rfl rfl (fun _ => ?_) (fun _ => ?_) | refine c_split_n rfl rfl (fun _ => ?_) (fun _ => ?_)) <;> try (first | (rename_i hz; exact Bool.noConfusion (show true = false from hz)) | (rename_i hz; exact Bool.noConfusion (show false = true from hz)) | (exfalso; omega)))
      | refine r_val rfl rfl (by (first | omega | exact Nat.le_of_ble_eq_true rfl | (simp only [wrap_u8, IntKind.wrap_i64, IntKind.wrap_i32, wrap_u32', wrap_u64', InI]; (repeat' refine And.intro ?_ ?_) <;> omega) | ((repeat' refine And.intro ?_ ?_) <;> first | omega | rfl | exact Nat.le_refl _ | exact Nat.le_of_ble_eq_true rfl | exact bytesF_one _) | (simp_all; done) | (simp_all; omega))) ?_ | refine r_gval rfl rfl rfl rfl (by (first | omega | exact Nat.le_of_ble_eq_true rfl | (simp only [wrap_u8, IntKind.wrap_i64, IntKind.wrap_i32, wrap_u32', wrap_u64', InI]; (repeat' refine And.intro ?_ ?_) <;> omega) | ((repeat' refine And.intro ?_ ?_) <;> first | omega | rfl | exact Nat.le_refl _ | exact Nat.le_of_ble_eq_true rfl | exact bytesF_one _) | (simp_all; done) | (simp_all; omega))) ?_
      | refine r_obj rfl rfl (by (first | omega | exact Nat.le_of_ble_eq_true rfl | (simp only [wrap_u8, IntKind.wrap_i64, IntKind.wrap_i32, wrap_u32', wrap_u64', InI]; (repeat' refine And.intro ?_ ?_) <;> omega) | ((repeat' refine And.intro ?_ ?_) <;> first | omega | rfl | exact Nat.le_refl _ | exact Nat.le_of_ble_eq_true rfl | exact bytesF_one _) | (simp_all; done) | (simp_all; omega))) ?_ | refine r_sto rfl (by (first | omega | exact Nat.le_of_ble_eq_true rfl | (simp only [wrap_u8, IntKind.wrap_i64, IntKind.wrap_i32, wrap_u32', wrap_u64', InI]; (repeat' refine And.intro ?_ ?_) <;> omega) | ((repeat' refine And.intro ?_ ?_) <;> first | omega | rfl | exact Nat.le_refl _ | exact Nat.le_of_ble_eq_true rfl | exact bytesF_one _) | (simp_all; done) | (simp_all; omega))) ?_ | refine r_gobj rfl rfl rfl rfl (by (first | omega | exact Nat.le_of_ble_eq_true rfl | (simp only [wrap_u8, IntKind.wrap_i64, IntKind.wrap_i32, wrap_u32', wrap_u64', InI]; (repeat' refine And.intro ?_ ?_) <;> omega) | ((repeat' refine And.intro ?_ ?_) <;> first | omega | rfl | exact Nat.le_refl _ | exact Nat.le_of_ble_eq_true rfl | exact bytesF_one _) | (simp_all; done) | (simp_all; omega))) ?_
      | refine e_hit rfl ?_ | refine e_miss rfl ?_
      | refine ⟨by kernel_rfl, ?_⟩ | refine x_end rfl ?_ | refine r_next rfl rfl rfl hlt (by omega) ?_ | ((with_reducible refine c_grd ?_); (fail_if_success (refine c_lit true rfl rfl rfl ?_)); (fail_if_success (refine c_lit false rfl rfl rfl ?_)); refine c_split rfl rfl (fun _ => ?_) (fun _ => ?_)))
    exact ⟨k + 1, by omega, by omega, ⟨rfl, congrArg (D.i .u64) ew, rfl, trivial⟩, ⟨rfl, rfl, trivial⟩, rfl, by rw [hX]; intro k hk; cases hk⟩
  · have hfull : ds.take k = ds := List.take_of_length_le (by omega)
    rw [hfull]
    have n0 := hnum ds.length
    rw [List.take_of_length_le (Nat.le_refl _)] at n0
    clear hnum htake hfull
    generalize numL ds = N at *
    repeat' (first
      | with_reducible refine t_seq ?_ | with_reducible refine t_region ?_ | with_reducible refine c_nil ?_ | with_reducible refine n_then ?_
      | with_reducible refine t_ret ?_ | with_reducible refine t_skip ?_ | with_reducible refine t_exit ?_ | with_reducible refine t_block ?_
      | with_reducible refine n_block ?_ | with_reducible refine e_then ?_ | with_reducible refine x_then ?_ | with_reducible refine x_block ?_ | with_reducible refine t_draw ?_
      | refine r_val rfl rfl True.intro ?_ | refine r_gskip rfl rfl rfl ?_ | refine r_gskip2 rfl rfl rfl ?_ | refine r_gval rfl rfl rfl rfl True.intro ?_
      | refine t_true rfl ?_ | refine t_false rfl ?_
      | ((first | refine t_cond_d rfl (fun _ => ?_) (fun _ => ?_) | refine t_cond_i rfl (fun _ => ?_) (fun _ => ?_) | refine t_cond_j rfl (fun _ => ?_) (fun _ => ?_) | refine t_cond_s rfl (fun _ => ?_) (fun _ => ?_) | refine t_cond_n rfl (fun _ => ?_) (fun _ => ?_) | refine t_cond rfl (fun _ => ?_) (fun _ => ?_) | refine c_split_d rfl rfl (fun _ => ?_) (fun _ => ?_) | refine c_split_i rfl rfl (fun _ => ?_) (fun _ => ?_) | refine c_split_j rfl rfl (fun _ => ?_) (fun _ => ?_) | refine c_split_s rfl rfl (fun _ => ?_) (fun _ => ?_) | refine c_split_n rfl rfl (fun _ => ?_) (fun _ => ?_)) <;> try (first | (rename_i hz; exact Bool.noConfusion (show true = false from hz)) | (rename_i hz; exact Bool.noConfusion (show false = true from hz)) | (exfalso; omega)))
      | refine r_val rfl rfl (by (first | omega | exact Nat.le_of_ble_eq_true rfl | (simp only [wrap_u8, IntKind.wrap_i64, IntKind.wrap_i32, wrap_u32', wrap_u64', InI]; (repeat' refine And.intro ?_ ?_) <;> omega) | ((repeat' refine And.intro ?_ ?_) <;> first | omega | rfl | exact Nat.le_refl _ | exact Nat.le_of_ble_eq_true rfl | exact bytesF_one _) | (simp_all; done) | (simp_all; omega))) ?_ | refine r_gval rfl rfl rfl rfl (by (first | omega | exact Nat.le_of_ble_eq_true rfl | (simp only [wrap_u8, IntKind.wrap_i64, IntKind.wrap_i32, wrap_u32', wrap_u64', InI]; (repeat' refine And.intro ?_ ?_) <;> omega) | ((repeat' refine And.intro ?_ ?_) <;> first | omega | rfl | exact Nat.le_refl _ | exact Nat.le_of_ble_eq_true rfl | exact bytesF_one _) | (simp_all; done) | (simp_all; omega))) ?_
      | refine r_obj rfl rfl (by (first | omega | exact Nat.le_of_ble_eq_true rfl | (simp only [wrap_u8, IntKind.wrap_i64, IntKind.wrap_i32, wrap_u32', wrap_u64', InI]; (repeat' refine And.intro ?_ ?_) <;> omega) | ((repeat' refine And.intro ?_ ?_) <;> first | omega | rfl | exact Nat.le_refl _ | exact Nat.le_of_ble_eq_true rfl | exact bytesF_one _) | (simp_all; done) | (simp_all; omega))) ?_ | refine r_sto rfl (by (first | omega | exact Nat.le_of_ble_eq_true rfl | (simp only [wrap_u8, IntKind.wrap_i64, IntKind.wrap_i32, wrap_u32', wrap_u64', InI]; (repeat' refine And.intro ?_ ?_) <;> omega) | ((repeat' refine And.intro ?_ ?_) <;> first | omega | rfl | exact Nat.le_refl _ | exact Nat.le_of_ble_eq_true rfl | exact bytesF_one _) | (simp_all; done) | (simp_all; omega))) ?_ | refine r_gobj rfl rfl rfl rfl (by (first | omega | exact Nat.le_of_ble_eq_true rfl | (simp only [wrap_u8, IntKind.wrap_i64, IntKind.wrap_i32, wrap_u32', wrap_u64', InI]; (repeat' refine And.intro ?_ ?_) <;> omega) | ((repeat' refine And.intro ?_ ?_) <;> first | omega | rfl | exact Nat.le_refl _ | exact Nat.le_of_ble_eq_true rfl | exact bytesF_one _) | (simp_all; done) | (simp_all; omega))) ?_
      | refine e_hit rfl ?_ | refine e_miss rfl ?_
      | refine ⟨by kernel_rfl, ?_⟩ | refine x_end rfl ?_ | refine r_over rfl rfl rfl (by omega) ?_ | ((with_reducible refine c_grd ?_); (fail_if_success (refine c_lit true rfl rfl rfl ?_)); (fail_if_success (refine c_lit false rfl rfl rfl ?_)); refine c_split rfl rfl (fun _ => ?_) (fun _ => ?_)))
    · rw [I2 (by omega)]
    · rw [I3 (by omega) ‹_›, IntKind.wrap_i64]
      exact congrArg (fun x => D.tu [.i .i64 x, .b true]) (by omega)
    · rw [I4 (by omega) (Bool.eq_false_iff.1 ‹_›), IntKind.wrap_i64]
      exact congrArg (fun x => D.tu [.i .i64 x, .b true]) (by omega)

set_option maxHeartbeats 1000000 in
theorem rint_ctr (neg : Bool) (s : List UInt8) (e : Int) (hs : s.length ≤ 1048576) : Ctr Tryd.prog 58 [dcD neg s e] (.tu [.i .i64 (intF neg s e).1, .b (intF neg s e).2]) := by
  by_cases h : RightP neg s e
  case neg =>
    rw [intF_1 (.inl h)]
    exact rint_bad neg s e hs h
  obtain ⟨b1, b2, b3, b4⟩ := h.bounds
  have c1 := rright_ctr neg s e (by omega)
  rw [rightB_iff.2 h] at c1
  have hds := digs_zs (mem_digs b4) e.toNat
  have hlen : (s ++ zs e.toNat).length = s.length + e.toNat := by simp
  have I1 : (e < 0 ∨ 19 < s.length + e) → intF neg s e = (0, false) := fun h2 => intF_1 (.inr h2)
  have hno : ¬ (e < 0 ∨ 19 < s.length + e) → ¬ (¬ RightP neg s e ∨ e < 0 ∨ 19 < s.length + e) := fun h2 h3 => h3.elim (fun h4 => h4 h) h2
  have I2 := fun h2 => intF_2 (neg := neg) (s := s) (e := e) (hno h2)
  have I3 := fun h2 => intF_3 (neg := neg) (s := s) (e := e) (hno h2)
  have I4 := fun h2 => intF_4 (neg := neg) (s := s) (e := e) (hno h2)
  have hup : ∀ p : Int, s.length + e ≤ p → atF s e p = 0 := fun p h => atF_above s e p h
  have hat : 0 ≤ e → ∀ i : Nat, i < s.length + e.toNat → atF s e (s.length + e - 1 - i) = at' (s ++ zs e.toNat) i - 48 := fun he i hi => by
    rw [atF_pad, ← pad_zs s e.toNat i]
    unfold pad
    rw [if_pos (by rw [hlen]; exact hi)]
  clear h hno b4
  generalize intF neg s e = R at *
  refine r_fun Tryd.func58 rfl Tryd.ntmps58 Tryd.results58 rfl rfl fun X hL hX => ?_
  repeat' (first
    | with_reducible refine t_seq ?_ | with_reducible refine t_region ?_ | with_reducible refine c_nil ?_ | with_reducible refine n_then ?_
    | with_reducible refine t_ret ?_ | with_reducible refine t_skip ?_ | with_reducible refine t_exit ?_ | with_reducible refine t_block ?_
    | with_reducible refine n_block ?_ | with_reducible refine e_then ?_ | with_reducible refine x_then ?_ | with_reducible refine x_block ?_ | with_reducible refine t_draw ?_
    | refine r_val rfl rfl True.intro ?_ | refine r_gskip rfl rfl rfl ?_ | refine r_gskip2 rfl rfl rfl ?_ | refine r_gval rfl rfl rfl rfl True.intro ?_
    | refine t_true rfl ?_ | refine t_false rfl ?_
    | ((first | refine t_cond_d rfl (fun _ => ?_) (fun _ => ?_) | refine t_cond_i rfl (fun _ => ?_) (fun _ => ?_) | refine t_cond_j rfl (fun _ => ?_) (fun _ => ?_) | refine t_cond_s rfl (fun _ => ?_) (fun _ => ?_) | refine t_cond_n rfl (fun _ => ?_) (fun _ => ?_) | refine t_cond rfl (fun _ => ?_) (fun _ => ?_) | refine c_split_d rfl rfl (fun _ => ?_) (fun _ => ?_) | refine c_split_i rfl rfl (fun _ => ?_) (fun _ => ?_) | refine c_split_j rfl rfl (fun _ => ?_) (fun _ => ?_) | refine c_split_s rfl rfl (fun _ => ?_) (fun _ => ?_) | refine c_split_n rfl rfl (fun _ => ?_) (fun _ => ?_)) <;> try (first | (rename_i hz; exact Bool.noConfusion (show true = false from hz)) | (rename_i hz; exact Bool.noConfusion (show false = true from hz)) | (exfalso; omega)))
    | refine r_val rfl rfl (by (first | omega | exact Nat.le_of_ble_eq_true rfl | (simp only [wrap_u8, IntKind.wrap_i64, IntKind.wrap_i32, wrap_u32', wrap_u64', InI]; (repeat' refine And.intro ?_ ?_) <;> omega) | ((repeat' refine And.intro ?_ ?_) <;> first | omega | rfl | exact Nat.le_refl _ | exact Nat.le_of_ble_eq_true rfl | exact bytesF_one _) | (simp_all; done) | (simp_all; omega))) ?_ | refine r_gval rfl rfl rfl rfl (by (first | omega | exact Nat.le_of_ble_eq_true rfl | (simp only [wrap_u8, IntKind.wrap_i64, IntKind.wrap_i32, wrap_u32', wrap_u64', InI]; (repeat' refine And.intro ?_ ?_) <;> omega) | ((repeat' refine And.intro ?_ ?_) <;> first | omega | rfl | exact Nat.le_refl _ | exact Nat.le_of_ble_eq_true rfl | exact bytesF_one _) | (simp_all; done) | (simp_all; omega))) ?_
    | refine r_obj rfl rfl (by (first | omega | exact Nat.le_of_ble_eq_true rfl | (simp only [wrap_u8, IntKind.wrap_i64, IntKind.wrap_i32, wrap_u32', wrap_u64', InI]; (repeat' refine And.intro ?_ ?_) <;> omega) | ((repeat' refine And.intro ?_ ?_) <;> first | omega | rfl | exact Nat.le_refl _ | exact Nat.le_of_ble_eq_true rfl | exact bytesF_one _) | (simp_all; done) | (simp_all; omega))) ?_ | refine r_sto rfl (by (first | omega | exact Nat.le_of_ble_eq_true rfl | (simp only [wrap_u8, IntKind.wrap_i64, IntKind.wrap_i32, wrap_u32', wrap_u64', InI]; (repeat' refine And.intro ?_ ?_) <;> omega) | ((repeat' refine And.intro ?_ ?_) <;> first | omega | rfl | exact Nat.le_refl _ | exact Nat.le_of_ble_eq_true rfl | exact bytesF_one _) | (simp_all; done) | (simp_all; omega))) ?_ | refine r_gobj rfl rfl rfl rfl (by (first | omega | exact Nat.le_of_ble_eq_true rfl | (simp only [wrap_u8, IntKind.wrap_i64, IntKind.wrap_i32, wrap_u32', wrap_u64', InI]; (repeat' refine And.intro ?_ ?_) <;> omega) | ((repeat' refine And.intro ?_ ?_) <;> first | omega | rfl | exact Nat.le_refl _ | exact Nat.le_of_ble_eq_true rfl | exact bytesF_one _) | (simp_all; done) | (simp_all; omega))) ?_
    | refine e_hit rfl ?_ | refine e_miss rfl ?_
    | refine ⟨by kernel_rfl, ?_⟩ | refine x_end rfl ?_ | refine r_call (f := 42) rfl rfl Tryd.call42 rfl c1 ?_ | ((with_reducible refine c_grd ?_); (fail_if_success (refine c_lit true rfl rfl rfl ?_)); (fail_if_success (refine c_lit false rfl rfl rfl ?_)); refine c_split rfl rfl (fun _ => ?_) (fun _ => ?_)))
  · rw [I1 (by omega)]
  · rw [I1 (by omega)]
  rename_i h1 h2
  replace I2 := I2 (by omega)
  replace I3 := I3 (by omega)
  replace I4 := I4 (by omega)
  replace hat := hat (by omega)
  have hl19 : (s ++ zs e.toNat).length ≤ 19 := by omega
  have hnum := num_lt hds hl19
  have htake := fun i h => num_take hds (i := i) h
  clear I1 c1 hds
  generalize s ++ zs e.toNat = ds at *
  refine T.loop hL (fun k : Nat => [(1, .pv 1 0), (4, .i .u64 (numL (ds.take (k - (20 - ds.length))) : Nat)), (5, .i .i64 (19 - (k : Int)))]) (fun k => [(1, .var [.b neg, .s s, .i .i64 e])]) (fun k => k ≤ 20) (fun k => 20 - k) 0 (Nat.zero_le _)
    ⟨⟨rfl, by rw [Nat.zero_sub]; rfl, rfl, trivial⟩, ⟨rfl, trivial⟩, rfl, by rw [hX]; intro k hk; cases hk⟩ ?_
  intro k hk
  by_cases hlt : k < 20
  · have ca := at16_ctr neg s e (19 - (k : Int)) (by omega) (by omega) (by omega) (by omega) (by omega)
    have n0 := hnum (k - (20 - ds.length))
    have n1 := hnum (k + 1 - (20 - ds.length))
    have ew : IntKind.u64.wrap (IntKind.u64.wrap (10 * ((numL (ds.take (k - (20 - ds.length))) : Nat) : Int)) + IntKind.u64.wrap (atF s e (19 - (k : Int)))) = ((numL (ds.take (k + 1 - (20 - ds.length))) : Nat) : Int) := by
      by_cases hb : 20 - ds.length ≤ k
      · obtain ⟨e1, e2, e3⟩ := htake (k - (20 - ds.length)) (by omega)
        have ea := hat (k - (20 - ds.length)) (by omega)
        rw [show (s.length : Int) + e - 1 - ((k - (20 - ds.length) : Nat) : Int) = 19 - (k : Int) by omega] at ea
        rw [show k + 1 - (20 - ds.length) = k - (20 - ds.length) + 1 by omega] at n1 ⊢
        rw [e1] at n1 ⊢
        rw [ea]
        simp only [wrap_u64']
        omega
      · rw [hup (19 - (k : Int)) (by omega), show k - (20 - ds.length) = 0 by omega, show k + 1 - (20 - ds.length) = 0 by omega]
        rfl
    have ra : 0 ≤ atF s e (19 - (k : Int)) ∧ atF s e (19 - (k : Int)) ≤ 9 := by
      by_cases hb : 20 - ds.length ≤ k
      · obtain ⟨e1, e2, e3⟩ := htake (k - (20 - ds.length)) (by omega)
        have ea := hat (k - (20 - ds.length)) (by omega)
        rw [show (s.length : Int) + e - 1 - ((k - (20 - ds.length) : Nat) : Int) = 19 - (k : Int) by omega] at ea
        omega
      · have := hup (19 - (k : Int)) (by omega)
        omega
    have hs19 : (19 : Int) - k - 1 = 19 - ((k + 1 : Nat) : Int) := by omega
    clear I2 I3 I4 hnum htake hat hup
    generalize atF s e (19 - (k : Int)) = A at *
    repeat' (first
      | with_reducible refine t_seq ?_ | with_reducible refine t_region ?_ | with_reducible refine c_nil ?_ | with_reducible refine n_then ?_
      | with_reducible refine t_ret ?_ | with_reducible refine t_skip ?_ | with_reducible refine t_exit ?_ | with_reducible refine t_block ?_
      | with_reducible refine n_block ?_ | with_reducible refine e_then ?_ | with_reducible refine x_then ?_ | with_reducible refine x_block ?_ | with_reducible refine t_draw ?_
      | refine r_val rfl rfl True.intro ?_ | refine r_gskip rfl rfl rfl ?_ | refine r_gskip2 rfl rfl rfl ?_ | refine r_gval rfl rfl rfl rfl True.intro ?_
      | refine t_true rfl ?_ | refine t_false rfl ?_
      | ((first | refine t_cond_d rfl (fun _ => ?_) (fun _ => ?_) | refine t_cond_i rfl (fun _ => ?_) (fun _ => ?_) | refine t_cond_j rfl (fun _ => ?_) (fun _ => ?_) | refine t_cond_s rfl (fun _ => ?_) (fun _ => ?_) | refine t_cond_n rfl (fun _ => ?_) (fun _ => ?_) | refine t_cond rfl (fun _ => ?_) (fun _ => ?_) | refine c_split_d rfl rfl (fun _ => ?_) (fun _ => ?_) | refine c_split_i rfl rfl (fun _ => ?_) (fun _ => ?_) | refine c_split_j rfl rfl (fun _ => ?_) (fun _ => ?_) | refine c_split_s rfl rfl (fun _ => ?_) (fun _ => ?_) | refine c_split_n rfl rfl (fun _ => ?_) (fun _ => ?_)) <;> try (first | (rename_i hz; exact Bool.noConfusion (show true = false from hz)) | (rename_i hz; exact Bool.noConfusion (show false = true from hz)) | (exfalso; omega)))
      | refine r_val rfl rfl (by (first | omega | exact Nat.le_of_ble_eq_true rfl | (simp only [wrap_u8, IntKind.wrap_i64, IntKind.wrap_i32, wrap_u32', wrap_u64', InI]; (repeat' refine And.intro ?_ ?_) <;> omega) | ((repeat' refine And.intro ?_ ?_) <;> first | omega | rfl | exact Nat.le_refl _ | exact Nat.le_of_ble_eq_true rfl | exact bytesF_one _) | (simp_all; done) | (simp_all; omega))) ?_ | refine r_gval rfl rfl rfl rfl (by (first | omega | exact Nat.le_of_ble_eq_true rfl | (simp only [wrap_u8, IntKind.wrap_i64, IntKind.wrap_i32, wrap_u32', wrap_u64', InI]; (repeat' refine And.intro ?_ ?_) <;> omega) | ((repeat' refine And.intro ?_ ?_) <;> first | omega | rfl | exact Nat.le_refl _ | exact Nat.le_of_ble_eq_true rfl | exact bytesF_one _) | (simp_all; done) | (simp_all; omega))) ?_
      | refine r_obj rfl rfl (by (first | omega | exact Nat.le_of_ble_eq_true rfl | (simp only [wrap_u8, IntKind.wrap_i64, IntKind.wrap_i32, wrap_u32', wrap_u64', InI]; (repeat' refine And.intro ?_ ?_) <;> omega) | ((repeat' refine And.intro ?_ ?_) <;> first | omega | rfl | exact Nat.le_refl _ | exact Nat.le_of_ble_eq_true rfl | exact bytesF_one _) | (simp_all; done) | (simp_all; omega))) ?_ | refine r_sto rfl (by (first | omega | exact Nat.le_of_ble_eq_true rfl | (simp only [wrap_u8, IntKind.wrap_i64, IntKind.wrap_i32, wrap_u32', wrap_u64', InI]; (repeat' refine And.intro ?_ ?_) <;> omega) | ((repeat' refine And.intro ?_ ?_) <;> first | omega | rfl | exact Nat.le_refl _ | exact Nat.le_of_ble_eq_true rfl | exact bytesF_one _) | (simp_all; done) | (simp_all; omega))) ?_ | refine r_gobj rfl rfl rfl rfl (by (first | omega | exact Nat.le_of_ble_eq_true rfl | (simp only [wrap_u8, IntKind.wrap_i64, IntKind.wrap_i32, wrap_u32', wrap_u64', InI]; (repeat' refine And.intro ?_ ?_) <;> omega) | ((repeat' refine And.intro ?_ ?_) <;> first | omega | rfl | exact Nat.le_refl _ | exact Nat.le_of_ble_eq_true rfl | exact bytesF_one _) | (simp_all; done) | (simp_all; omega))) ?_
      | refine e_hit rfl ?_ | refine e_miss rfl ?_
      | refine ⟨by kernel_rfl, ?_⟩ | refine x_end rfl ?_ | refine r_call (f := 100) rfl rfl Tryd.call100 rfl ca ?_ | ((with_reducible refine c_grd ?_); (fail_if_success (refine c_lit true rfl rfl rfl ?_)); (fail_if_success (refine c_lit false rfl rfl rfl ?_)); refine c_split rfl rfl (fun _ => ?_) (fun _ => ?_)))
    exact ⟨k + 1, by omega, by omega, ⟨rfl, congrArg (D.i .u64) ew, congrArg (D.i .i64) hs19, trivial⟩, ⟨rfl, trivial⟩, rfl, by rw [hX]; intro k hk; cases hk⟩
  · have hfull : ds.take (k - (20 - ds.length)) = ds := List.take_of_length_le (by omega)
    rw [hfull]
    have n0 := hnum ds.length
    rw [List.take_of_length_le (Nat.le_refl _)] at n0
    clear hnum htake hfull hat hup
    generalize numL ds = N at *
    repeat' (first
      | with_reducible refine t_seq ?_ | with_reducible refine t_region ?_ | with_reducible refine c_nil ?_ | with_reducible refine n_then ?_
      | with_reducible refine t_ret ?_ | with_reducible refine t_skip ?_ | with_reducible refine t_exit ?_ | with_reducible refine t_block ?_
      | with_reducible refine n_block ?_ | with_reducible refine e_then ?_ | with_reducible refine x_then ?_ | with_reducible refine x_block ?_ | with_reducible refine t_draw ?_
      | refine r_val rfl rfl True.intro ?_ | refine r_gskip rfl rfl rfl ?_ | refine r_gskip2 rfl rfl rfl ?_ | refine r_gval rfl rfl rfl rfl True.intro ?_
      | refine t_true rfl ?_ | refine t_false rfl ?_
      | ((first | refine t_cond_d rfl (fun _ => ?_) (fun _ => ?_) | refine t_cond_i rfl (fun _ => ?_) (fun _ => ?_) | refine t_cond_j rfl (fun _ => ?_) (fun _ => ?_) | refine t_cond_s rfl (fun _ => ?_) (fun _ => ?_) | refine t_cond_n rfl (fun _ => ?_) (fun _ => ?_) | refine t_cond rfl (fun _ => ?_) (fun _ => ?_) | refine c_split_d rfl rfl (fun _ => ?_) (fun _ => ?_) | refine c_split_i rfl rfl (fun _ => ?_) (fun _ => ?_) | refine c_split_j rfl rfl (fun _ => ?_) (fun _ => ?_) | refine c_split_s rfl rfl (fun _ => ?_) (fun _ => ?_) | refine c_split_n rfl rfl (fun _ => ?_) (fun _ => ?_)) <;> try (first | (rename_i hz; exact Bool.noConfusion (show true = false from hz)) | (rename_i hz; exact Bool.noConfusion (show false = true from hz)) | (exfalso; omega)))
      | refine r_val rfl rfl (by (first | omega | exact Nat.le_of_ble_eq_true rfl | (simp only [wrap_u8, IntKind.wrap_i64, IntKind.wrap_i32, wrap_u32', wrap_u64', InI]; (repeat' refine And.intro ?_ ?_) <;> omega) | ((repeat' refine And.intro ?_ ?_) <;> first | omega | rfl | exact Nat.le_refl _ | exact Nat.le_of_ble_eq_true rfl | exact bytesF_one _) | (simp_all; done) | (simp_all; omega))) ?_ | refine r_gval rfl rfl rfl rfl (by (first | omega | exact Nat.le_of_ble_eq_true rfl | (simp only [wrap_u8, IntKind.wrap_i64, IntKind.wrap_i32, wrap_u32', wrap_u64', InI]; (repeat' refine And.intro ?_ ?_) <;> omega) | ((repeat' refine And.intro ?_ ?_) <;> first | omega | rfl | exact Nat.le_refl _ | exact Nat.le_of_ble_eq_true rfl | exact bytesF_one _) | (simp_all; done) | (simp_all; omega))) ?_
      | refine r_obj rfl rfl (by (first | omega | exact Nat.le_of_ble_eq_true rfl | (simp only [wrap_u8, IntKind.wrap_i64, IntKind.wrap_i32, wrap_u32', wrap_u64', InI]; (repeat' refine And.intro ?_ ?_) <;> omega) | ((repeat' refine And.intro ?_ ?_) <;> first | omega | rfl | exact Nat.le_refl _ | exact Nat.le_of_ble_eq_true rfl | exact bytesF_one _) | (simp_all; done) | (simp_all; omega))) ?_ | refine r_sto rfl (by (first | omega | exact Nat.le_of_ble_eq_true rfl | (simp only [wrap_u8, IntKind.wrap_i64, IntKind.wrap_i32, wrap_u32', wrap_u64', InI]; (repeat' refine And.intro ?_ ?_) <;> omega) | ((repeat' refine And.intro ?_ ?_) <;> first | omega | rfl | exact Nat.le_refl _ | exact Nat.le_of_ble_eq_true rfl | exact bytesF_one _) | (simp_all; done) | (simp_all; omega))) ?_ | refine r_gobj rfl rfl rfl rfl (by (first | omega | exact Nat.le_of_ble_eq_true rfl | (simp only [wrap_u8, IntKind.wrap_i64, IntKind.wrap_i32, wrap_u32', wrap_u64', InI]; (repeat' refine And.intro ?_ ?_) <;> omega) | ((repeat' refine And.intro ?_ ?_) <;> first | omega | rfl | exact Nat.le_refl _ | exact Nat.le_of_ble_eq_true rfl | exact bytesF_one _) | (simp_all; done) | (simp_all; omega))) ?_
      | refine e_hit rfl ?_ | refine e_miss rfl ?_
      | refine ⟨by kernel_rfl, ?_⟩ | refine x_end rfl ?_ | ((with_reducible refine c_grd ?_); (fail_if_success (refine c_lit true rfl rfl rfl ?_)); (fail_if_success (refine c_lit false rfl rfl rfl ?_)); refine c_split rfl rfl (fun _ => ?_) (fun _ => ?_)))
    · rw [I2 (by omega)]
    · rw [I3 (by omega) ‹_›, IntKind.wrap_i64]
      exact congrArg (fun x => D.tu [.i .i64 x, .b true]) (by omega)
    · rw [I4 (by omega) (Bool.eq_false_iff.1 ‹_›), IntKind.wrap_i64]
      exact congrArg (fun x => D.tu [.i .i64 x, .b true]) (by omega)

end Go.Proofs.YteidmimpkipcfaaDoor.Flow

/- UTF: the program's reader: a byte, four digits. -/
namespace Go.Proofs.YteidmimpkipcfaaDoor.Flow
open Go

/-- A digit's value; -1: none. -/
def hexF (c : Int) : Int := if 48 ≤ c ∧ c ≤ 57 then c - 48 else if 97 ≤ c ∧ c ≤ 102 then c - 87 else if 65 ≤ c ∧ c ≤ 70 then c - 55 else -1

theorem hexF_range (c : Int) : -1 ≤ hexF c ∧ hexF c ≤ 15 := by
  unfold hexF
  split
  · omega
  · split
    · omega
    · split <;> omega

/-- The reader's cells: the text, the place, what came, what is wrong. -/
def rd (s : List UInt8) (i : Int) (o : List UInt8) (e : Int) : List D := [.s s, .i .i64 i, .gs 200 1 o.length (bytesF o), .i .i64 e]
def rdl (s : List UInt8) (i : Int) (o : List UInt8) (e : Int) : Ow := [(20, .var (rd s i o e)), (200, .row 5 1 o.length)]

/-- What is wrong, once more. -/
def failF (e c : Int) : Int := if e = 0 then c else e

theorem failF_ne (e c : Int) (h : ¬ c = 0) : ¬ failF e c = 0 := by
  unfold failF
  split
  · exact h
  · assumption

/-- The next byte, the place behind, what is wrong. -/
def nextF (s : List UInt8) (i e : Int) : Int × Int × Int := if e = 0 then (if i < s.length then (at' s i, i + 1, 0) else (0, i, 2)) else (0, i, e)

theorem nextF_ok {s : List UInt8} {i e : Int} (h : e = 0) (h2 : i < s.length) : nextF s i e = (at' s i, i + 1, 0) := by
  unfold nextF
  rw [if_pos h, if_pos h2]
theorem nextF_short {s : List UInt8} {i e : Int} (h : e = 0) (h2 : ¬ i < s.length) : nextF s i e = (0, i, 2) := by
  unfold nextF
  rw [if_pos h, if_neg h2]
theorem nextF_bad {s : List UInt8} {i e : Int} (h : ¬ e = 0) : nextF s i e = (0, i, e) := by
  unfold nextF
  rw [if_neg h]
theorem nextF_range {s : List UInt8} {i e : Int} (h : 0 ≤ i) (h2 : i ≤ s.length) : i ≤ (nextF s i e).2.1 ∧ (nextF s i e).2.1 ≤ s.length ∧ 0 ≤ (nextF s i e).1 ∧ (nextF s i e).1 < 256 ∧ (nextF s i e).2.1 ≤ i + 1 := by
  have := at_range s i
  unfold nextF
  split
  · split
    · dsimp only; omega
    · dsimp only; omega
  · dsimp only; omega

def mustF (s : List UInt8) (i e c : Int) : Int × Int := ((nextF s i e).2.1, if (nextF s i e).1 = c then (nextF s i e).2.2 else failF (nextF s i e).2.2 3)

/-- So many digits: their number, the place behind, what is wrong. -/
def fourG (s : List UInt8) : Nat → Int → Int → Int × Int × Int
  | 0, n, i => (n, i, 0)
  | k + 1, n, i => if i < s.length then (if hexF (at' s i) < 0 then (0, i + 1, 3) else fourG s k (16 * n + hexF (at' s i)) (i + 1)) else (0, i, 2)

def fourF (s : List UInt8) (i e : Int) : Int × Int × Int := if e = 0 then fourG s 4 0 i else (0, i, e)

end Go.Proofs.YteidmimpkipcfaaDoor.Flow

/- UTF: the program's reader: four digits, a code point. -/
namespace Go.Proofs.YteidmimpkipcfaaDoor.Flow
open Go

theorem or4 (n h : Int) (h0 : 0 ≤ n) (h1 : n < 4096) (h2 : 0 ≤ h) (h3 : h < 16) : bits .or .i32 (IntKind.i32.wrap (n * 2 ^ (4 : Int).toNat)) (IntKind.i32.wrap h) = 16 * n + h := by
  have e : n * 2 ^ (4 : Int).toNat = 16 * n := by
    show n * 2 ^ 4 = _
    omega
  rw [e, wrap_i32 _ (by omega) (by omega), wrap_i32 _ (by omega) (by omega)]
  exact bits_join .i32 31 (by decide) wraps_i32 4 (16 * n) h (by omega) (by omega) (by omega) h2 (by omega) (by omega)

section
variable {s : List UInt8} {k : Nat} {n i : Int}
theorem fourG_more (h : i < s.length) (h2 : ¬ hexF (at' s i) < 0) : fourG s (k + 1) n i = fourG s k (16 * n + hexF (at' s i)) (i + 1) := by
  rw [fourG, if_pos h, if_neg h2]
theorem fourG_form (h : i < s.length) (h2 : hexF (at' s i) < 0) : fourG s (k + 1) n i = (0, i + 1, 3) := by
  rw [fourG, if_pos h, if_pos h2]
theorem fourG_short (h : ¬ i < s.length) : fourG s (k + 1) n i = (0, i, 2) := by
  rw [fourG, if_neg h]
end

theorem fourG_range (s : List UInt8) : ∀ (k : Nat) (n i : Int), 0 ≤ i → i ≤ s.length → 0 ≤ n → 0 ≤ (fourG s k n i).1 ∧ (fourG s k n i).1 < 16 ^ k * (n + 1) ∧ i ≤ (fourG s k n i).2.1 ∧ (fourG s k n i).2.1 ≤ s.length ∧ (fourG s k n i).2.1 ≤ i + k ∧ ((fourG s k n i).2.2 ≠ 0 → (fourG s k n i).1 = 0) ∧ ((fourG s k n i).2.2 = 0 → (fourG s k n i).2.1 = i + k)
  | 0, n, i, h0, h1, h2 => by simp [fourG]; omega
  | k + 1, n, i, h0, h1, h2 => by
    have hh := hexF_range (at' s i)
    have hp : (0 : Int) < 16 ^ k := Int.pow_pos (by omega)
    rw [fourG]
    split
    · split
      · dsimp only
        refine ⟨by omega, ?_, by omega, by omega, by omega, fun _ => rfl, fun h => absurd h (by omega)⟩
        exact Int.mul_pos (Int.pow_pos (by omega)) (by omega)
      · have ih := fourG_range s k (16 * n + hexF (at' s i)) (i + 1) (by omega) (by omega) (by omega)
        obtain ⟨a, b, c, d, e, f, g⟩ := ih
        refine ⟨a, Int.lt_of_lt_of_le b ?_, by omega, by omega, by omega, f, fun h => by have := g h; omega⟩
        have : (16 : Int) ^ (k + 1) * (n + 1) = 16 ^ k * (16 * (n + 1)) := by rw [Int.pow_succ, Int.mul_assoc]
        rw [this]
        exact Int.mul_le_mul_of_nonneg_left (by omega) (by omega)
    · dsimp only
      refine ⟨by omega, ?_, by omega, by omega, by omega, fun _ => rfl, fun h => absurd h (by omega)⟩
      exact Int.mul_pos (Int.pow_pos (by omega)) (by omega)

theorem fourF_range (s : List UInt8) (i e : Int) (h0 : 0 ≤ i) (h1 : i ≤ s.length) : 0 ≤ (fourF s i e).1 ∧ (fourF s i e).1 < 65536 ∧ i ≤ (fourF s i e).2.1 ∧ (fourF s i e).2.1 ≤ s.length ∧ (fourF s i e).2.1 ≤ i + 4 ∧ ((fourF s i e).2.2 ≠ 0 → (fourF s i e).1 = 0) := by
  have h := fourG_range s 4 0 i h0 h1 (by omega)
  unfold fourF
  split
  · refine ⟨h.1, ?_, h.2.2.1, h.2.2.2.1, h.2.2.2.2.1, h.2.2.2.2.2.1⟩
    have := h.2.1
    omega
  · dsimp only
    omega

end Go.Proofs.YteidmimpkipcfaaDoor.Flow

/- UTF: a code point's bytes are appended. -/
namespace Go.Proofs.YteidmimpkipcfaaDoor.Flow
open Go

/-- A code point's bytes. -/
def utfB (n : Int) : List UInt8 :=
  if n < 128 then [by8 n] else if n < 2048 then [by8 (192 + n / 64), by8 (128 + n % 64)]
  else if n < 65536 then [by8 (224 + n / 4096), by8 (128 + n / 64 % 64), by8 (128 + n % 64)]
  else [by8 (240 + n / 262144), by8 (128 + n / 4096 % 64), by8 (128 + n / 64 % 64), by8 (128 + n % 64)]

theorem utfB_len (n : Int) : (utfB n).length ≤ 4 := by
  unfold utfB
  split
  · simp
  · split
    · simp
    · split <;> simp

theorem tail6 (x : Int) (h : 0 ≤ x) : bits .or .u8 128 (bits .and .u8 (IntKind.u8.wrap x) 63) = ((by8 (128 + x % 64)).toNat : Int) := by
  rw [wrap_u8, and63 _ (by omega) (by omega), or128 _ (by omega) (by omega), by8_nat _ (by omega) (by omega)]
  omega
theorem head2 (x : Int) (h : 0 ≤ x) (h2 : x < 32) : bits .or .u8 192 (IntKind.u8.wrap x) = ((by8 (192 + x)).toNat : Int) := by
  rw [wrap_u8, or192 _ (by omega) (by omega), by8_nat _ (by omega) (by omega)]
  omega
theorem head3 (x : Int) (h : 0 ≤ x) (h2 : x < 16) : bits .or .u8 224 (IntKind.u8.wrap x) = ((by8 (224 + x)).toNat : Int) := by
  rw [wrap_u8, or224 _ (by omega) (by omega), by8_nat _ (by omega) (by omega)]
  omega
theorem head4 (x : Int) (h : 0 ≤ x) (h2 : x < 8) : bits .or .u8 240 (IntKind.u8.wrap x) = ((by8 (240 + x)).toNat : Int) := by
  rw [wrap_u8, or240 _ (by omega) (by omega), by8_nat _ (by omega) (by omega)]
  omega

theorem utfB_1 {r : Int} (h : r < 128) : utfB r = [by8 r] := if_pos h
theorem utfB_2 {r : Int} (h0 : 128 ≤ r) (h : r < 2048) : utfB r = [by8 (192 + r / 64), by8 (128 + r % 64)] := by
  unfold utfB
  rw [if_neg (by omega), if_pos h]
theorem utfB_3 {r : Int} (h0 : 2048 ≤ r) (h : r < 65536) : utfB r = [by8 (224 + r / 4096), by8 (128 + r / 64 % 64), by8 (128 + r % 64)] := by
  unfold utfB
  rw [if_neg (by omega), if_neg (by omega), if_pos h]
theorem utfB_4 {r : Int} (h0 : 65536 ≤ r) : utfB r = [by8 (240 + r / 262144), by8 (128 + r / 4096 % 64), by8 (128 + r / 64 % 64), by8 (128 + r % 64)] := by
  unfold utfB
  rw [if_neg (by omega), if_neg (by omega), if_neg (by omega)]

theorem p6 : (2 : Int) ^ Int.toNat 6 = 64 := by decide
theorem p12 : (2 : Int) ^ Int.toNat 12 = 4096 := by decide
theorem p18 : (2 : Int) ^ Int.toNat 18 = 262144 := by decide

end Go.Proofs.YteidmimpkipcfaaDoor.Flow

/- UTF: the program's reader: a code point in one part or two, what is behind a backslash. -/
namespace Go.Proofs.YteidmimpkipcfaaDoor.Flow
open Go

/-- Two halves as one code point, as the program reckons it. -/
def pairW (n m : Int) : Int := IntKind.i32.wrap (IntKind.i32.wrap (IntKind.i32.wrap (65536 + IntKind.i32.wrap (IntKind.i32.wrap (n - 55296) * 2 ^ (10 : Int).toNat)) + m) - 56320)
def pairF (n m : Int) : Int := 65536 + 1024 * (n - 55296) + m - 56320
theorem pairW_eq (n m : Int) (h0 : 55296 ≤ n) (h1 : n ≤ 56319) (h2 : 0 ≤ m) (h3 : m < 65536) : pairW n m = pairF n m := by
  unfold pairW pairF
  have e : (2 : Int) ^ Int.toNat 10 = 1024 := by decide
  rw [e, wrap_i32 (n - 55296) (by omega) (by omega), wrap_i32 ((n - 55296) * 1024) (by omega) (by omega), wrap_i32 (65536 + (n - 55296) * 1024) (by omega) (by omega), wrap_i32 (65536 + (n - 55296) * 1024 + m) (by omega) (by omega), wrap_i32 _ (by omega) (by omega)]
  omega

/-- The second half, as the program reads it: its number, the place behind, what is wrong. -/
def lowP (s : List UInt8) (j : Int) : Int × Int × Int :=
  let a := mustF s j 0 92
  let b := mustF s a.1 a.2 117
  let y := fourF s b.1 b.2
  (y.1, y.2.1, if y.1 < 56320 ∨ 57343 < y.1 then failF y.2.2 3 else y.2.2)

theorem mustF_range (s : List UInt8) (i e c : Int) (h : 0 ≤ i) (h2 : i ≤ s.length) : i ≤ (mustF s i e c).1 ∧ (mustF s i e c).1 ≤ s.length ∧ (mustF s i e c).1 ≤ i + 1 := by
  have := nextF_range (e := e) h h2
  unfold mustF
  dsimp only
  omega

/-- A code point: the place behind, what came, what is wrong. -/
def codeP (s : List UInt8) (i : Int) (o : List UInt8) : Int × List UInt8 × Int :=
  let x := fourG s 4 0 i
  if x.2.2 = 0 then
    if 56320 ≤ x.1 ∧ x.1 ≤ 57343 then (x.2.1, o, 3)
    else if 55296 ≤ x.1 ∧ x.1 ≤ 56319 then
      (if (lowP s x.2.1).2.2 = 0 then ((lowP s x.2.1).2.1, o ++ utfB (pairF x.1 (lowP s x.2.1).1), 0) else ((lowP s x.2.1).2.1, o, (lowP s x.2.1).2.2))
    else (x.2.1, o ++ utfB x.1, 0)
  else (x.2.1, o, x.2.2)

section
variable {s : List UInt8} {i j j1 j2 j3 n m e e1 e2 e3 : Int} {o : List UInt8}
theorem lowP_eq (h1 : mustF s j 0 92 = (j1, e1)) (h2 : mustF s j1 e1 117 = (j2, e2)) (h3 : fourF s j2 e2 = (m, j3, e3)) : lowP s j = (m, j3, if m < 56320 ∨ 57343 < m then failF e3 3 else e3) := by
  simp only [lowP, h1, h2, h3]
theorem codeP_bad (h : fourG s 4 0 i = (n, j, e)) (h2 : ¬ e = 0) : codeP s i o = (j, o, e) := by
  simp only [codeP, h]
  rw [if_neg h2]
theorem codeP_low (h : fourG s 4 0 i = (n, j, 0)) (h2 : 56320 ≤ n) (h3 : n ≤ 57343) : codeP s i o = (j, o, 3) := by
  simp only [codeP, h]
  rw [if_pos trivial, if_pos ⟨h2, h3⟩]
theorem codeP_one (h : fourG s 4 0 i = (n, j, 0)) (h2 : n < 55296 ∨ 57343 < n) : codeP s i o = (j, o ++ utfB n, 0) := by
  simp only [codeP, h]
  rw [if_pos trivial, if_neg (by omega), if_neg (by omega)]
theorem codeP_pair (h : fourG s 4 0 i = (n, j, 0)) (h2 : 55296 ≤ n) (h3 : n ≤ 56319) (h4 : lowP s j = (m, j3, 0)) : codeP s i o = (j3, o ++ utfB (pairF n m), 0) := by
  simp only [codeP, h]
  rw [if_pos trivial, if_neg (by omega), if_pos ⟨h2, h3⟩, h4]
  rfl
theorem codeP_half (h : fourG s 4 0 i = (n, j, 0)) (h2 : 55296 ≤ n) (h3 : n ≤ 56319) (h4 : lowP s j = (m, j3, e)) (h5 : ¬ e = 0) : codeP s i o = (j3, o, e) := by
  simp only [codeP, h]
  rw [if_pos trivial, if_neg (by omega), if_pos ⟨h2, h3⟩, h4]
  dsimp only
  rw [if_neg h5]
end

end Go.Proofs.YteidmimpkipcfaaDoor.Flow

/- UTF: which bytes are UTF-8; eight bytes at once. -/
namespace Go.Proofs.YteidmimpkipcfaaDoor.Flow
open Go

/-- Is the byte at a place from lo to hi? -/
def tlB (l : List UInt8) (k : Int) (lo hi : Int) : Bool := decide (k < l.length) && decide (lo ≤ at' l k) && decide (at' l k ≤ hi)
def loF (c : Int) : Int := if c = 224 then 160 else if c = 240 then 144 else 128
def hiF (c : Int) : Int := if c = 237 then 159 else if c = 244 then 143 else 191

/-- How many bytes the code point at the head has; 0: there is none. -/
def oneL (l : List UInt8) : Nat :=
  if at' l 0 < 128 then 1
  else if tlB l 1 (loF (at' l 0)) (hiF (at' l 0)) = false then 0
  else if 194 ≤ at' l 0 ∧ at' l 0 ≤ 223 then 2
  else if 224 ≤ at' l 0 ∧ at' l 0 ≤ 239 ∧ tlB l 2 128 191 = true then 3
  else if 240 ≤ at' l 0 ∧ at' l 0 ≤ 244 ∧ tlB l 2 128 191 = true ∧ tlB l 3 128 191 = true then 4
  else 0

def validN : Nat → List UInt8 → Bool
  | 0, _ => true
  | n + 1, l => if l.length = 0 then true else if oneL l = 0 then false else validN n (l.drop (oneL l))

def validL (l : List UInt8) : Bool := validN l.length l

theorem validN_ge : ∀ (n m : Nat) (l : List UInt8), l.length ≤ n → l.length ≤ m → validN n l = validN m l
  | 0, m, l, h, _ => by
    have : l.length = 0 := by omega
    cases m with
    | zero => rfl
    | succ m => simp [validN, this]
  | n + 1, 0, l, _, h => by
    have : l.length = 0 := by omega
    simp [validN, this]
  | n + 1, m + 1, l, h1, h2 => by
    unfold validN
    by_cases h0 : l.length = 0
    · simp [h0]
    · rw [if_neg h0, if_neg h0]
      by_cases ho : oneL l = 0
      · rw [if_pos ho, if_pos ho]
      · rw [if_neg ho, if_neg ho]
        exact validN_ge n m _ (by rw [List.length_drop]; omega) (by rw [List.length_drop]; omega)

theorem validL_nil {l : List UInt8} (h : l.length = 0) : validL l = true := by
  unfold validL
  rw [h]
  rfl
theorem validL_bad {l : List UInt8} (h : ¬ l.length = 0) (ho : oneL l = 0) : validL l = false := by
  unfold validL
  obtain ⟨n, hn⟩ : ∃ n, l.length = n + 1 := ⟨l.length - 1, by omega⟩
  rw [hn]
  unfold validN
  rw [if_neg h, if_pos ho]
theorem validL_step {l : List UInt8} (h : ¬ l.length = 0) (ho : ¬ oneL l = 0) : validL l = validL (l.drop (oneL l)) := by
  unfold validL
  obtain ⟨n, hn⟩ : ∃ n, l.length = n + 1 := ⟨l.length - 1, by omega⟩
  rw [hn]
  conv => lhs; unfold validN
  rw [if_neg h, if_neg ho]
  exact validN_ge _ _ _ (by rw [List.length_drop]; omega) (Nat.le_refl _)

theorem at_drop (l : List UInt8) (k j : Nat) : at' (l.drop k) j = at' l ((k + j : Nat) : Int) := by
  unfold at'
  simp only [Int.toNat_natCast]
  simp [List.getD_eq_getElem?_getD, List.getElem?_drop]

theorem valid_ascii : ∀ (k : Nat) (l : List UInt8), k ≤ l.length → (∀ j : Nat, j < k → at' l j < 128) → validL (l.drop k) = validL l
  | 0, l, _, _ => by simp
  | k + 1, l, h, ha => by
    have h0 := ha 0 (by omega)
    have ho : oneL l = 1 := by unfold oneL; rw [if_pos (by simpa using h0)]
    rw [validL_step (l := l) (by omega) (by omega), ho, ← valid_ascii k (l.drop 1) (by rw [List.length_drop]; omega) (fun j hj => by rw [at_drop]; exact ha (1 + j) (by omega)), List.drop_drop, Nat.add_comm 1 k]

/-! ### Eight bytes at once -/
def wordV (l : List UInt8) : Int := at' l 0 + 256 * at' l 1 + 65536 * at' l 2 + 16777216 * at' l 3 + 4294967296 * at' l 4 + 1099511627776 * at' l 5 + 281474976710656 * at' l 6 + 72057594037927936 * at' l 7

theorem wraps_u64U (n : Int) (h₀ : 0 ≤ n) (h₁ : n < 2 ^ 64) : IntKind.u64.wrap n = n := by rw [wrap_u64']; omega
theorem bits_or_commU (k : IntKind) (x y : Int) : bits .or k x y = bits .or k y x := by simp [bits, BitVec.or_comm]

theorem or_up (i : Nat) (x y p : Int) (hx : 0 ≤ x) (hx2 : x < 2 ^ i) (hy : 0 ≤ y) (hy2 : y < 256) (hi : i + 8 ≤ 64) (hp : p = 2 ^ i) (hp2 : y * p < 18446744073709551616) (hx3 : x < 18446744073709551616) (hp0 : 0 ≤ y * p) : bits .or .u64 x (IntKind.u64.wrap (IntKind.u64.wrap y * p)) = x + y * p := by
  rw [wraps_u64U y hy (by omega), wraps_u64U _ hp0 hp2, bits_or_commU, bits_join .u64 64 (by decide) wraps_u64U i _ _ hp0 (by rw [hp, Int.mul_emod_left]) hp2 hx hx2 hx3]
  omega

theorem word_ctr (l : List UInt8) (h : 8 ≤ l.length) : Ctr Tryd.prog 127 [.s l] (.i .u64 (wordV l)) := by
  have r0 := at_range l 0
  have r1 := at_range l 1
  have r2 := at_range l 2
  have r3 := at_range l 3
  have r4 := at_range l 4
  have r5 := at_range l 5
  have r6 := at_range l 6
  have r7 := at_range l 7
  refine r_fun Tryd.func127 rfl Tryd.ntmps127 Tryd.results127 rfl rfl fun X hL hX => ?_
  repeat' (first
    | with_reducible refine t_seq ?_ | with_reducible refine t_region ?_ | with_reducible refine c_nil ?_ | with_reducible refine n_then ?_
    | with_reducible refine t_ret ?_ | with_reducible refine t_skip ?_ | with_reducible refine t_exit ?_ | with_reducible refine t_block ?_
    | with_reducible refine n_block ?_ | with_reducible refine e_then ?_ | with_reducible refine x_then ?_ | with_reducible refine x_block ?_ | with_reducible refine t_draw ?_
    | refine r_val rfl rfl True.intro ?_ | refine r_gskip rfl rfl rfl ?_ | refine r_gskip2 rfl rfl rfl ?_ | refine r_gval rfl rfl rfl rfl True.intro ?_
    | refine t_true rfl ?_ | refine t_false rfl ?_
    | ((first | refine t_cond_d rfl (fun _ => ?_) (fun _ => ?_) | refine t_cond_i rfl (fun _ => ?_) (fun _ => ?_) | refine t_cond_j rfl (fun _ => ?_) (fun _ => ?_) | refine t_cond_s rfl (fun _ => ?_) (fun _ => ?_) | refine t_cond_n rfl (fun _ => ?_) (fun _ => ?_) | refine t_cond rfl (fun _ => ?_) (fun _ => ?_) | refine c_split_d rfl rfl (fun _ => ?_) (fun _ => ?_) | refine c_split_i rfl rfl (fun _ => ?_) (fun _ => ?_) | refine c_split_j rfl rfl (fun _ => ?_) (fun _ => ?_) | refine c_split_s rfl rfl (fun _ => ?_) (fun _ => ?_) | refine c_split_n rfl rfl (fun _ => ?_) (fun _ => ?_)) <;> try (first | (rename_i hz; exact Bool.noConfusion (show true = false from hz)) | (rename_i hz; exact Bool.noConfusion (show false = true from hz)) | (exfalso; omega)))
    | refine r_val rfl rfl (by (first | omega | exact Nat.le_of_ble_eq_true rfl | (simp only [wrap_u8, IntKind.wrap_i64, IntKind.wrap_i32, wrap_u32', wrap_u64', InI]; (repeat' refine And.intro ?_ ?_) <;> omega) | ((repeat' refine And.intro ?_ ?_) <;> first | omega | rfl | exact Nat.le_refl _ | exact Nat.le_of_ble_eq_true rfl | exact bytesF_one _) | (simp_all; done) | (simp_all; omega))) ?_ | refine r_gval rfl rfl rfl rfl (by (first | omega | exact Nat.le_of_ble_eq_true rfl | (simp only [wrap_u8, IntKind.wrap_i64, IntKind.wrap_i32, wrap_u32', wrap_u64', InI]; (repeat' refine And.intro ?_ ?_) <;> omega) | ((repeat' refine And.intro ?_ ?_) <;> first | omega | rfl | exact Nat.le_refl _ | exact Nat.le_of_ble_eq_true rfl | exact bytesF_one _) | (simp_all; done) | (simp_all; omega))) ?_
    | refine r_obj rfl rfl (by (first | omega | exact Nat.le_of_ble_eq_true rfl | (simp only [wrap_u8, IntKind.wrap_i64, IntKind.wrap_i32, wrap_u32', wrap_u64', InI]; (repeat' refine And.intro ?_ ?_) <;> omega) | ((repeat' refine And.intro ?_ ?_) <;> first | omega | rfl | exact Nat.le_refl _ | exact Nat.le_of_ble_eq_true rfl | exact bytesF_one _) | (simp_all; done) | (simp_all; omega))) ?_ | refine r_sto rfl (by (first | omega | exact Nat.le_of_ble_eq_true rfl | (simp only [wrap_u8, IntKind.wrap_i64, IntKind.wrap_i32, wrap_u32', wrap_u64', InI]; (repeat' refine And.intro ?_ ?_) <;> omega) | ((repeat' refine And.intro ?_ ?_) <;> first | omega | rfl | exact Nat.le_refl _ | exact Nat.le_of_ble_eq_true rfl | exact bytesF_one _) | (simp_all; done) | (simp_all; omega))) ?_ | refine r_gobj rfl rfl rfl rfl (by (first | omega | exact Nat.le_of_ble_eq_true rfl | (simp only [wrap_u8, IntKind.wrap_i64, IntKind.wrap_i32, wrap_u32', wrap_u64', InI]; (repeat' refine And.intro ?_ ?_) <;> omega) | ((repeat' refine And.intro ?_ ?_) <;> first | omega | rfl | exact Nat.le_refl _ | exact Nat.le_of_ble_eq_true rfl | exact bytesF_one _) | (simp_all; done) | (simp_all; omega))) ?_
    | refine e_hit rfl ?_ | refine e_miss rfl ?_
    | refine ⟨by kernel_rfl, ?_⟩ | refine x_end rfl ?_ | ((with_reducible refine c_grd ?_); (fail_if_success (refine c_lit true rfl rfl rfl ?_)); (fail_if_success (refine c_lit false rfl rfl rfl ?_)); refine c_split rfl rfl (fun _ => ?_) (fun _ => ?_)))
  unfold wordV
  generalize at' l 0 = b0 at *
  generalize at' l 1 = b1 at *
  generalize at' l 2 = b2 at *
  generalize at' l 3 = b3 at *
  generalize at' l 4 = b4 at *
  generalize at' l 5 = b5 at *
  generalize at' l 6 = b6 at *
  generalize at' l 7 = b7 at *
  have p8 : (2 : Int) ^ Int.toNat 8 = 256 := by decide
  have p16 : (2 : Int) ^ Int.toNat 16 = 65536 := by decide
  have p24 : (2 : Int) ^ Int.toNat 24 = 16777216 := by decide
  have p32 : (2 : Int) ^ Int.toNat 32 = 4294967296 := by decide
  have p40 : (2 : Int) ^ Int.toNat 40 = 1099511627776 := by decide
  have p48 : (2 : Int) ^ Int.toNat 48 = 281474976710656 := by decide
  have p56 : (2 : Int) ^ Int.toNat 56 = 72057594037927936 := by decide
  rw [p8, p16, p24, p32, p40, p48, p56, wraps_u64U b0 r0.1 (by omega)]
  rw [or_up 8 b0 b1 256 (by omega) (by omega) r1.1 r1.2 (by omega) (by decide) (by omega) (by omega) (by omega)]
  rw [or_up 16 _ b2 65536 (by omega) (by omega) r2.1 r2.2 (by omega) (by decide) (by omega) (by omega) (by omega)]
  rw [or_up 24 _ b3 16777216 (by omega) (by omega) r3.1 r3.2 (by omega) (by decide) (by omega) (by omega) (by omega)]
  rw [or_up 32 _ b4 4294967296 (by omega) (by omega) r4.1 r4.2 (by omega) (by decide) (by omega) (by omega) (by omega)]
  rw [or_up 40 _ b5 1099511627776 (by omega) (by omega) r5.1 r5.2 (by omega) (by decide) (by omega) (by omega) (by omega)]
  rw [or_up 48 _ b6 281474976710656 (by omega) (by omega) r6.1 r6.2 (by omega) (by decide) (by omega) (by omega) (by omega)]
  rw [or_up 56 _ b7 72057594037927936 (by omega) (by omega) r7.1 r7.2 (by omega) (by decide) (by omega) (by omega) (by omega)]
  exact congrArg (D.i .u64) (by omega)

/-- A word's high bits. -/
theorem hi_bits (w : Nat) (h : bits .and .u64 (w : Int) 9259542123273814144 = 0) (hw : w < 18446744073709551616) : w / 128 % 2 = 0 ∧ w / 32768 % 2 = 0 ∧ w / 8388608 % 2 = 0 ∧ w / 2147483648 % 2 = 0 ∧ w / 549755813888 % 2 = 0 ∧ w / 140737488355328 % 2 = 0 ∧ w / 36028797018963968 % 2 = 0 ∧ w / 9223372036854775808 % 2 = 0 := by
  have h1 := (bits_nat .u64 64 (by decide) wraps_u64U w 9259542123273814144 hw (by decide)).1
  have h2 : w &&& 9259542123273814144 = 0 := by
    have : ((9259542123273814144 : Nat) : Int) = 9259542123273814144 := rfl
    rw [this, h] at h1
    omega
  have key : ∀ i, (9259542123273814144 : Nat).testBit i = true → w / 2 ^ i % 2 = 0 := fun i hi => by
    have h3 : (w &&& 9259542123273814144).testBit i = false := by rw [h2]; exact Nat.zero_testBit i
    rw [Nat.testBit_and, hi, Bool.and_true, Nat.testBit_eq_decide_div_mod_eq] at h3
    have := of_decide_eq_false h3
    omega
  exact ⟨key 7 (by decide), key 15 (by decide), key 23 (by decide), key 31 (by decide), key 39 (by decide), key 47 (by decide), key 55 (by decide), key 63 (by decide)⟩

theorem wordV_range (l : List UInt8) : 0 ≤ wordV l ∧ wordV l < 18446744073709551616 := by
  have r0 := at_range l 0
  have r1 := at_range l 1
  have r2 := at_range l 2
  have r3 := at_range l 3
  have r4 := at_range l 4
  have r5 := at_range l 5
  have r6 := at_range l 6
  have r7 := at_range l 7
  unfold wordV
  omega

theorem word_ascii (l : List UInt8) (h : bits .and .u64 (wordV l) 9259542123273814144 = 0) : ∀ j : Nat, j < 8 → at' l j < 128 := by
  have hr := wordV_range l
  obtain ⟨w, hw⟩ : ∃ w : Nat, wordV l = w := ⟨(wordV l).toNat, by omega⟩
  rw [hw] at h
  obtain ⟨k0, k1, k2, k3, k4, k5, k6, k7⟩ := hi_bits w h (by omega)
  have r0 := at_range l 0
  have r1 := at_range l 1
  have r2 := at_range l 2
  have r3 := at_range l 3
  have r4 := at_range l 4
  have r5 := at_range l 5
  have r6 := at_range l 6
  have r7 := at_range l 7
  unfold wordV at hw
  intro j hj
  have hj : j = 0 ∨ j = 1 ∨ j = 2 ∨ j = 3 ∨ j = 4 ∨ j = 5 ∨ j = 6 ∨ j = 7 := by omega
  rcases hj with rfl | rfl | rfl | rfl | rfl | rfl | rfl | rfl
  · show at' l 0 < 128; clear k1 k2 k3 k4 k5 k6 k7; omega
  · show at' l 1 < 128; clear k0 k2 k3 k4 k5 k6 k7; omega
  · show at' l 2 < 128; clear k1 k0 k3 k4 k5 k6 k7; omega
  · show at' l 3 < 128; clear k1 k2 k0 k4 k5 k6 k7; omega
  · show at' l 4 < 128; clear k1 k2 k3 k0 k5 k6 k7; omega
  · show at' l 5 < 128; clear k1 k2 k3 k4 k0 k6 k7; omega
  · show at' l 6 < 128; clear k1 k2 k3 k4 k5 k0 k7; omega
  · show at' l 7 < 128; clear k1 k2 k3 k4 k5 k6 k0; omega

theorem and_or (a b : Int) (ha : 0 ≤ a) (ha2 : a < 18446744073709551616) (hb : 0 ≤ b) (hb2 : b < 18446744073709551616) (h : bits .and .u64 (bits .or .u64 a b) 9259542123273814144 = 0) : bits .and .u64 a 9259542123273814144 = 0 ∧ bits .and .u64 b 9259542123273814144 = 0 := by
  obtain ⟨x, rfl⟩ := Int.eq_ofNat_of_zero_le ha
  obtain ⟨y, rfl⟩ := Int.eq_ofNat_of_zero_le hb
  have hx : x < 2 ^ 64 := by omega
  have hy : y < 2 ^ 64 := by omega
  have hM : (9259542123273814144 : Nat) < 2 ^ 64 := by decide
  have c : ((9259542123273814144 : Nat) : Int) = 9259542123273814144 := rfl
  rw [(bits_nat .u64 64 (by decide) wraps_u64U x y hx hy).2, ← c, (bits_nat .u64 64 (by decide) wraps_u64U (x ||| y) 9259542123273814144 (Nat.or_lt_two_pow hx hy) hM).1, Nat.and_or_distrib_right] at h
  rw [← c, (bits_nat .u64 64 (by decide) wraps_u64U x 9259542123273814144 hx hM).1, (bits_nat .u64 64 (by decide) wraps_u64U y 9259542123273814144 hy hM).1]
  have h2 : x &&& 9259542123273814144 ||| y &&& 9259542123273814144 = 0 := by omega
  rw [Nat.or_eq_zero_iff] at h2
  rw [h2.1, h2.2]
  exact ⟨rfl, rfl⟩

theorem or_range (a b : Int) (ha : 0 ≤ a) (ha2 : a < 18446744073709551616) (hb : 0 ≤ b) (hb2 : b < 18446744073709551616) : 0 ≤ bits .or .u64 a b ∧ bits .or .u64 a b < 18446744073709551616 := by
  obtain ⟨x, rfl⟩ := Int.eq_ofNat_of_zero_le ha
  obtain ⟨y, rfl⟩ := Int.eq_ofNat_of_zero_le hb
  have hx : x < 2 ^ 64 := by omega
  have hy : y < 2 ^ 64 := by omega
  rw [(bits_nat .u64 64 (by decide) wraps_u64U x y hx hy).2]
  have := Nat.or_lt_two_pow hx hy
  omega

end Go.Proofs.YteidmimpkipcfaaDoor.Flow

/- UTF: utf8.ValidString. -/
namespace Go.Proofs.YteidmimpkipcfaaDoor.Flow
open Go

theorem word_ctr' (l l' : List UInt8) (e : l = l') (h : 8 ≤ l'.length) : Ctr Tryd.prog 127 [.s l] (.i .u64 (wordV l')) := by
  subst e
  exact word_ctr l h

theorem cut_from (l : List UInt8) (k : Nat) (n : Int) (hn : n = k) : ((l.take ((l.length : Int)).toNat).drop n.toNat) = l.drop k := by
  subst hn
  rw [Int.toNat_natCast, Int.toNat_natCast, List.take_length]

theorem sizes (c : Int) (h0 : 128 ≤ c) (h1 : c < 256) :
    (c < 194 ∨ 244 < c) ∧ firstZ c.toNat = 241 ∨ (194 ≤ c ∧ c ≤ 223) ∧ firstZ c.toNat = 2 ∨ c = 224 ∧ firstZ c.toNat = 19 ∨ (225 ≤ c ∧ c ≤ 236 ∨ 238 ≤ c ∧ c ≤ 239) ∧ firstZ c.toNat = 3 ∨ c = 237 ∧ firstZ c.toNat = 35 ∨
      c = 240 ∧ firstZ c.toNat = 52 ∨ (241 ≤ c ∧ c ≤ 243) ∧ firstZ c.toNat = 4 ∨ c = 244 ∧ firstZ c.toNat = 68 := by
  obtain ⟨n, rfl⟩ := Int.eq_ofNat_of_zero_le (show 0 ≤ c by omega)
  rw [Int.toNat_natCast]
  have h : n < 194 ∨ (194 ≤ n ∧ n < 224) ∨ n = 224 ∨ (225 ≤ n ∧ n < 237) ∨ n = 237 ∨ (238 ≤ n ∧ n < 240) ∨ n = 240 ∨ (241 ≤ n ∧ n < 244) ∨ n = 244 ∨ 245 ≤ n := by omega
  rcases h with h | h | h | h | h | h | h | h | h | h
  · have e : firstZ n = 241 := by unfold firstZ; rw [if_neg (by omega), if_pos (by omega)]
    omega
  · have e : firstZ n = 2 := by unfold firstZ; rw [if_neg (by omega), if_neg (by omega), if_pos (by omega)]
    omega
  · have e : firstZ n = 19 := by unfold firstZ; rw [if_neg (by omega), if_neg (by omega), if_neg (by omega), if_pos (by omega)]
    omega
  · have e : firstZ n = 3 := by unfold firstZ; rw [if_neg (by omega), if_neg (by omega), if_neg (by omega), if_neg (by omega), if_pos (by omega)]
    omega
  · have e : firstZ n = 35 := by unfold firstZ; rw [if_neg (by omega), if_neg (by omega), if_neg (by omega), if_neg (by omega), if_neg (by omega), if_pos (by omega)]
    omega
  · have e : firstZ n = 3 := by unfold firstZ; rw [if_neg (by omega), if_neg (by omega), if_neg (by omega), if_neg (by omega), if_neg (by omega), if_neg (by omega), if_pos (by omega)]
    omega
  · have e : firstZ n = 52 := by unfold firstZ; rw [if_neg (by omega), if_neg (by omega), if_neg (by omega), if_neg (by omega), if_neg (by omega), if_neg (by omega), if_neg (by omega), if_pos (by omega)]
    omega
  · have e : firstZ n = 4 := by unfold firstZ; rw [if_neg (by omega), if_neg (by omega), if_neg (by omega), if_neg (by omega), if_neg (by omega), if_neg (by omega), if_neg (by omega), if_neg (by omega), if_pos (by omega)]
    omega
  · have e : firstZ n = 68 := by unfold firstZ; rw [if_neg (by omega), if_neg (by omega), if_neg (by omega), if_neg (by omega), if_neg (by omega), if_neg (by omega), if_neg (by omega), if_neg (by omega), if_neg (by omega), if_pos (by omega)]
    omega
  · have e : firstZ n = 241 := by unfold firstZ; rw [if_neg (by omega), if_neg (by omega), if_neg (by omega), if_neg (by omega), if_neg (by omega), if_neg (by omega), if_neg (by omega), if_neg (by omega), if_neg (by omega), if_neg (by omega)]
    omega

theorem oneL_eq {l : List UInt8} (h : ¬ at' l 0 < 128) : oneL l = if 1 < (l.length : Int) ∧ loF (at' l 0) ≤ at' l 1 ∧ at' l 1 ≤ hiF (at' l 0) then
      (if 194 ≤ at' l 0 ∧ at' l 0 ≤ 223 then 2 else if 224 ≤ at' l 0 ∧ at' l 0 ≤ 239 ∧ 2 < (l.length : Int) ∧ 128 ≤ at' l 2 ∧ at' l 2 ≤ 191 then 3
      else if 240 ≤ at' l 0 ∧ at' l 0 ≤ 244 ∧ 2 < (l.length : Int) ∧ 128 ≤ at' l 2 ∧ at' l 2 ≤ 191 ∧ 3 < (l.length : Int) ∧ 128 ≤ at' l 3 ∧ at' l 3 ≤ 191 then 4 else 0) else 0 := by
  have ht : ∀ (k lo hi : Int), tlB l k lo hi = true ↔ k < l.length ∧ lo ≤ at' l k ∧ at' l k ≤ hi := fun k lo hi => by
    unfold tlB
    simp [and_assoc]
  unfold oneL
  rw [if_neg h]
  by_cases h1 : tlB l 1 (loF (at' l 0)) (hiF (at' l 0)) = true
  · rw [if_neg (by rw [h1]; decide), if_pos ((ht _ _ _).1 h1)]
    simp only [ht, and_assoc]
  · rw [if_pos (by simpa using h1), if_neg (fun h2 => h1 ((ht _ _ _).2 h2))]

set_option maxRecDepth 20000 in
set_option maxHeartbeats 2000000 in
theorem validS_ctr (l0 : List UInt8) (hl0 : l0.length ≤ 1099511627776) : Ctr Tryd.prog 92 [.s l0] (.b (validL l0)) := by
  refine r_fun Tryd.func92 rfl Tryd.ntmps92 Tryd.results92 rfl rfl fun X hL hX => ?_
  repeat' (first
    | with_reducible refine t_seq ?_ | with_reducible refine t_region ?_ | with_reducible refine c_nil ?_ | with_reducible refine n_then ?_
    | with_reducible refine t_ret ?_ | with_reducible refine t_skip ?_ | with_reducible refine t_exit ?_ | with_reducible refine t_block ?_
    | with_reducible refine n_block ?_ | with_reducible refine e_then ?_ | with_reducible refine x_then ?_ | with_reducible refine x_block ?_ | with_reducible refine t_draw ?_
    | refine r_val rfl rfl True.intro ?_ | refine r_gskip rfl rfl rfl ?_ | refine r_gskip2 rfl rfl rfl ?_ | refine r_gval rfl rfl rfl rfl True.intro ?_
    | refine t_true rfl ?_ | refine t_false rfl ?_
    | ((first | refine t_cond_d rfl (fun _ => ?_) (fun _ => ?_) | refine t_cond_i rfl (fun _ => ?_) (fun _ => ?_) | refine t_cond_j rfl (fun _ => ?_) (fun _ => ?_) | refine t_cond_s rfl (fun _ => ?_) (fun _ => ?_) | refine t_cond_n rfl (fun _ => ?_) (fun _ => ?_) | refine t_cond rfl (fun _ => ?_) (fun _ => ?_) | refine c_split_d rfl rfl (fun _ => ?_) (fun _ => ?_) | refine c_split_i rfl rfl (fun _ => ?_) (fun _ => ?_) | refine c_split_j rfl rfl (fun _ => ?_) (fun _ => ?_) | refine c_split_s rfl rfl (fun _ => ?_) (fun _ => ?_) | refine c_split_n rfl rfl (fun _ => ?_) (fun _ => ?_)) <;> try (first | contradiction | (exfalso; omega)))
    | refine r_val rfl rfl (by (first | omega | exact Nat.le_of_ble_eq_true rfl | (simp only [wrap_u8, IntKind.wrap_i64, IntKind.wrap_i32, wrap_u32', wrap_u64', InI]; (repeat' refine And.intro ?_ ?_) <;> omega) | ((repeat' refine And.intro ?_ ?_) <;> first | omega | rfl | exact Nat.le_refl _ | exact Nat.le_of_ble_eq_true rfl | exact bytesF_one _) | (simp_all; done) | (simp_all; omega))) ?_ | refine r_gval rfl rfl rfl rfl (by (first | omega | exact Nat.le_of_ble_eq_true rfl | (simp only [wrap_u8, IntKind.wrap_i64, IntKind.wrap_i32, wrap_u32', wrap_u64', InI]; (repeat' refine And.intro ?_ ?_) <;> omega) | ((repeat' refine And.intro ?_ ?_) <;> first | omega | rfl | exact Nat.le_refl _ | exact Nat.le_of_ble_eq_true rfl | exact bytesF_one _) | (simp_all; done) | (simp_all; omega))) ?_
    | refine r_obj rfl rfl (by (first | omega | exact Nat.le_of_ble_eq_true rfl | (simp only [wrap_u8, IntKind.wrap_i64, IntKind.wrap_i32, wrap_u32', wrap_u64', InI]; (repeat' refine And.intro ?_ ?_) <;> omega) | ((repeat' refine And.intro ?_ ?_) <;> first | omega | rfl | exact Nat.le_refl _ | exact Nat.le_of_ble_eq_true rfl | exact bytesF_one _) | (simp_all; done) | (simp_all; omega))) ?_ | refine r_sto rfl (by (first | omega | exact Nat.le_of_ble_eq_true rfl | (simp only [wrap_u8, IntKind.wrap_i64, IntKind.wrap_i32, wrap_u32', wrap_u64', InI]; (repeat' refine And.intro ?_ ?_) <;> omega) | ((repeat' refine And.intro ?_ ?_) <;> first | omega | rfl | exact Nat.le_refl _ | exact Nat.le_of_ble_eq_true rfl | exact bytesF_one _) | (simp_all; done) | (simp_all; omega))) ?_ | refine r_gobj rfl rfl rfl rfl (by (first | omega | exact Nat.le_of_ble_eq_true rfl | (simp only [wrap_u8, IntKind.wrap_i64, IntKind.wrap_i32, wrap_u32', wrap_u64', InI]; (repeat' refine And.intro ?_ ?_) <;> omega) | ((repeat' refine And.intro ?_ ?_) <;> first | omega | rfl | exact Nat.le_refl _ | exact Nat.le_of_ble_eq_true rfl | exact bytesF_one _) | (simp_all; done) | (simp_all; omega))) ?_
    | refine e_hit rfl ?_ | refine e_miss rfl ?_
    | refine ⟨by kernel_rfl, ?_⟩ | refine x_end rfl ?_ | ((with_reducible refine c_grd ?_); (fail_if_success (refine c_lit true rfl rfl rfl ?_)); (fail_if_success (refine c_lit false rfl rfl rfl ?_)); refine c_split rfl rfl (fun _ => ?_) (fun _ => ?_)))
  refine T.loop hL (fun l : List UInt8 => [(0, .s l)]) (fun _ => []) (fun l => l.length ≤ l0.length ∧ validL l = validL l0) (fun l => l.length) l0
    ⟨Nat.le_refl _, rfl⟩ ⟨⟨rfl, trivial⟩, trivial, rfl, by rw [hX]; intro k hk; cases hk⟩ ?_
  rintro l ⟨g1, g2⟩
  have hr := at_range l 0
  by_cases hlen : l.length = 0
  · have hv := validL_nil hlen
    repeat' (first
      | with_reducible refine t_seq ?_ | with_reducible refine t_region ?_ | with_reducible refine c_nil ?_ | with_reducible refine n_then ?_
      | with_reducible refine t_ret ?_ | with_reducible refine t_skip ?_ | with_reducible refine t_exit ?_ | with_reducible refine t_block ?_
      | with_reducible refine n_block ?_ | with_reducible refine e_then ?_ | with_reducible refine x_then ?_ | with_reducible refine x_block ?_ | with_reducible refine t_draw ?_
      | refine r_val rfl rfl True.intro ?_ | refine r_gskip rfl rfl rfl ?_ | refine r_gskip2 rfl rfl rfl ?_ | refine r_gval rfl rfl rfl rfl True.intro ?_
      | refine t_true rfl ?_ | refine t_false rfl ?_
      | ((first | refine t_cond_d rfl (fun _ => ?_) (fun _ => ?_) | refine t_cond_i rfl (fun _ => ?_) (fun _ => ?_) | refine t_cond_j rfl (fun _ => ?_) (fun _ => ?_) | refine t_cond_s rfl (fun _ => ?_) (fun _ => ?_) | refine t_cond_n rfl (fun _ => ?_) (fun _ => ?_) | refine t_cond rfl (fun _ => ?_) (fun _ => ?_) | refine c_split_d rfl rfl (fun _ => ?_) (fun _ => ?_) | refine c_split_i rfl rfl (fun _ => ?_) (fun _ => ?_) | refine c_split_j rfl rfl (fun _ => ?_) (fun _ => ?_) | refine c_split_s rfl rfl (fun _ => ?_) (fun _ => ?_) | refine c_split_n rfl rfl (fun _ => ?_) (fun _ => ?_)) <;> try (first | (rename_i hz; exact Bool.noConfusion (show true = false from hz)) | (rename_i hz; exact Bool.noConfusion (show false = true from hz)) | (exfalso; omega)))
      | refine r_val rfl rfl (by (first | omega | exact Nat.le_of_ble_eq_true rfl | (simp only [wrap_u8, IntKind.wrap_i64, IntKind.wrap_i32, wrap_u32', wrap_u64', InI]; (repeat' refine And.intro ?_ ?_) <;> omega) | ((repeat' refine And.intro ?_ ?_) <;> first | omega | rfl | exact Nat.le_refl _ | exact Nat.le_of_ble_eq_true rfl | exact bytesF_one _) | (simp_all; done) | (simp_all; omega))) ?_ | refine r_gval rfl rfl rfl rfl (by (first | omega | exact Nat.le_of_ble_eq_true rfl | (simp only [wrap_u8, IntKind.wrap_i64, IntKind.wrap_i32, wrap_u32', wrap_u64', InI]; (repeat' refine And.intro ?_ ?_) <;> omega) | ((repeat' refine And.intro ?_ ?_) <;> first | omega | rfl | exact Nat.le_refl _ | exact Nat.le_of_ble_eq_true rfl | exact bytesF_one _) | (simp_all; done) | (simp_all; omega))) ?_
      | refine r_obj rfl rfl (by (first | omega | exact Nat.le_of_ble_eq_true rfl | (simp only [wrap_u8, IntKind.wrap_i64, IntKind.wrap_i32, wrap_u32', wrap_u64', InI]; (repeat' refine And.intro ?_ ?_) <;> omega) | ((repeat' refine And.intro ?_ ?_) <;> first | omega | rfl | exact Nat.le_refl _ | exact Nat.le_of_ble_eq_true rfl | exact bytesF_one _) | (simp_all; done) | (simp_all; omega))) ?_ | refine r_sto rfl (by (first | omega | exact Nat.le_of_ble_eq_true rfl | (simp only [wrap_u8, IntKind.wrap_i64, IntKind.wrap_i32, wrap_u32', wrap_u64', InI]; (repeat' refine And.intro ?_ ?_) <;> omega) | ((repeat' refine And.intro ?_ ?_) <;> first | omega | rfl | exact Nat.le_refl _ | exact Nat.le_of_ble_eq_true rfl | exact bytesF_one _) | (simp_all; done) | (simp_all; omega))) ?_ | refine r_gobj rfl rfl rfl rfl (by (first | omega | exact Nat.le_of_ble_eq_true rfl | (simp only [wrap_u8, IntKind.wrap_i64, IntKind.wrap_i32, wrap_u32', wrap_u64', InI]; (repeat' refine And.intro ?_ ?_) <;> omega) | ((repeat' refine And.intro ?_ ?_) <;> first | omega | rfl | exact Nat.le_refl _ | exact Nat.le_of_ble_eq_true rfl | exact bytesF_one _) | (simp_all; done) | (simp_all; omega))) ?_
      | refine e_hit rfl ?_ | refine e_miss rfl ?_
      | refine ⟨by kernel_rfl, ?_⟩ | refine x_end rfl ?_ | ((with_reducible refine c_grd ?_); (fail_if_success (refine c_lit true rfl rfl rfl ?_)); (fail_if_success (refine c_lit false rfl rfl rfl ?_)); refine c_split rfl rfl (fun _ => ?_) (fun _ => ?_)))
    rw [← g2, hv]
  by_cases hasc : at' l 0 < 128
  · have hv1 : validL (l.drop 1) = validL l := valid_ascii 1 l (by omega) fun j hj => by rw [show j = 0 by omega]; exact hasc
    have hl1 : (l.drop 1).length = l.length - 1 := List.length_drop
    have e1 := cut_from l 1 1 rfl
    generalize l.drop 1 = l1 at hv1 hl1 e1
    rw [g2] at hv1
    have hv9 : 8 ≤ l1.length → bits .and .u64 (wordV l1) 9259542123273814144 = 0 → validL (l1.drop 8) = validL l0 := fun h1 h2 => by rw [valid_ascii 8 l1 h1 (word_ascii l1 h2), hv1]
    have hl9 : (l1.drop 8).length = l1.length - 8 := List.length_drop
    have e9 := cut_from l1 8 8 rfl
    generalize l1.drop 8 = l9 at hv9 hl9 e9
    have hv25 : validL l9 = validL l0 → 16 ≤ l9.length → bits .and .u64 (bits .or .u64 (wordV l9) (wordV (l9.drop 8))) 9259542123273814144 = 0 → validL (l9.drop 16) = validL l0 := fun h0 h1 h2 => by
      have w1 := wordV_range l9
      have w2 := wordV_range (l9.drop 8)
      obtain ⟨a1, a2⟩ := and_or _ _ w1.1 w1.2 w2.1 w2.2 h2
      rw [valid_ascii 16 l9 h1 (fun j hj => ?_), h0]
      by_cases h8 : j < 8
      · exact word_ascii l9 a1 j h8
      · have := word_ascii _ a2 (j - 8) (by omega)
        rw [at_drop, show 8 + (j - 8) = j by omega] at this
        exact this
    have hl25 : (l9.drop 16).length = l9.length - 16 := List.length_drop
    have f8 := cut_from l9 8 8 rfl
    have hf8 : (l9.drop 8).length = l9.length - 8 := List.length_drop
    have e25 := cut_from l9 16 16 rfl
    generalize l9.drop 16 = l25 at hv25 hl25 e25
    generalize l9.drop 8 = l17 at hv25 f8 hf8
    have leaf : ∀ (m : List UInt8) (fr : Fr) (ow : Ow), m.length < l.length → validL m = validL l0 → leFr fr [(0, .s m)] →
        ∃ y : List UInt8, (y.length ≤ l0.length ∧ validL y = validL l0) ∧ y.length < l.length ∧ Le X fr ow [(0, .s y)] [] := fun m fr ow h1 h2 h3 =>
      ⟨m, ⟨by omega, h2⟩, h1, h3, trivial, rfl, by rw [hX]; intro k hk; cases hk⟩
    repeat' (first
      | refine T.weakF 0 (.s l1) (.of_eq (congrArg D.s e1)) ?_ | refine T.weakF 0 (.s l9) (.of_eq (congrArg D.s e9)) ?_ | refine T.weakF 0 (.s l25) (.of_eq (congrArg D.s e25)) ?_
      | with_reducible refine t_seq ?_ | with_reducible refine t_region ?_ | with_reducible refine c_nil ?_ | with_reducible refine n_then ?_
      | with_reducible refine t_ret ?_ | with_reducible refine t_skip ?_ | with_reducible refine t_exit ?_ | with_reducible refine t_block ?_
      | with_reducible refine n_block ?_ | with_reducible refine e_then ?_ | with_reducible refine x_then ?_ | with_reducible refine x_block ?_ | with_reducible refine t_draw ?_
      | refine r_val rfl rfl True.intro ?_ | refine r_gskip rfl rfl rfl ?_ | refine r_gskip2 rfl rfl rfl ?_ | refine r_gval rfl rfl rfl rfl True.intro ?_
      | refine t_true rfl ?_ | refine t_false rfl ?_
      | ((first | refine t_cond_d rfl (fun _ => ?_) (fun _ => ?_) | refine t_cond_i rfl (fun _ => ?_) (fun _ => ?_) | refine t_cond_j rfl (fun _ => ?_) (fun _ => ?_) | refine t_cond_s rfl (fun _ => ?_) (fun _ => ?_) | refine t_cond_n rfl (fun _ => ?_) (fun _ => ?_) | refine t_cond rfl (fun _ => ?_) (fun _ => ?_) | refine c_split_d rfl rfl (fun _ => ?_) (fun _ => ?_) | refine c_split_i rfl rfl (fun _ => ?_) (fun _ => ?_) | refine c_split_j rfl rfl (fun _ => ?_) (fun _ => ?_) | refine c_split_s rfl rfl (fun _ => ?_) (fun _ => ?_) | refine c_split_n rfl rfl (fun _ => ?_) (fun _ => ?_)) <;> try (first | (rename_i hz; exact Bool.noConfusion (show true = false from hz)) | (rename_i hz; exact Bool.noConfusion (show false = true from hz)) | (exfalso; omega)))
      | refine r_val rfl rfl (by (first | omega | exact Nat.le_of_ble_eq_true rfl | (simp only [wrap_u8, IntKind.wrap_i64, IntKind.wrap_i32, wrap_u32', wrap_u64', InI]; (repeat' refine And.intro ?_ ?_) <;> omega) | ((repeat' refine And.intro ?_ ?_) <;> first | omega | rfl | exact Nat.le_refl _ | exact Nat.le_of_ble_eq_true rfl | exact bytesF_one _) | (simp_all; done) | (simp_all; omega))) ?_ | refine r_gval rfl rfl rfl rfl (by (first | omega | exact Nat.le_of_ble_eq_true rfl | (simp only [wrap_u8, IntKind.wrap_i64, IntKind.wrap_i32, wrap_u32', wrap_u64', InI]; (repeat' refine And.intro ?_ ?_) <;> omega) | ((repeat' refine And.intro ?_ ?_) <;> first | omega | rfl | exact Nat.le_refl _ | exact Nat.le_of_ble_eq_true rfl | exact bytesF_one _) | (simp_all; done) | (simp_all; omega))) ?_
      | refine r_obj rfl rfl (by (first | omega | exact Nat.le_of_ble_eq_true rfl | (simp only [wrap_u8, IntKind.wrap_i64, IntKind.wrap_i32, wrap_u32', wrap_u64', InI]; (repeat' refine And.intro ?_ ?_) <;> omega) | ((repeat' refine And.intro ?_ ?_) <;> first | omega | rfl | exact Nat.le_refl _ | exact Nat.le_of_ble_eq_true rfl | exact bytesF_one _) | (simp_all; done) | (simp_all; omega))) ?_ | refine r_sto rfl (by (first | omega | exact Nat.le_of_ble_eq_true rfl | (simp only [wrap_u8, IntKind.wrap_i64, IntKind.wrap_i32, wrap_u32', wrap_u64', InI]; (repeat' refine And.intro ?_ ?_) <;> omega) | ((repeat' refine And.intro ?_ ?_) <;> first | omega | rfl | exact Nat.le_refl _ | exact Nat.le_of_ble_eq_true rfl | exact bytesF_one _) | (simp_all; done) | (simp_all; omega))) ?_ | refine r_gobj rfl rfl rfl rfl (by (first | omega | exact Nat.le_of_ble_eq_true rfl | (simp only [wrap_u8, IntKind.wrap_i64, IntKind.wrap_i32, wrap_u32', wrap_u64', InI]; (repeat' refine And.intro ?_ ?_) <;> omega) | ((repeat' refine And.intro ?_ ?_) <;> first | omega | rfl | exact Nat.le_refl _ | exact Nat.le_of_ble_eq_true rfl | exact bytesF_one _) | (simp_all; done) | (simp_all; omega))) ?_
      | refine e_hit rfl ?_ | refine e_miss rfl ?_
      | refine ⟨by kernel_rfl, ?_⟩ | refine x_end rfl ?_ | refine r_gcall (f := 127) rfl rfl rfl rfl Tryd.call127 rfl (word_ctr' _ l1 rfl (by omega)) ?_ | refine r_gcall (f := 127) rfl rfl rfl rfl Tryd.call127 rfl (word_ctr' _ l9 rfl (by omega)) ?_ | refine r_gcall (f := 127) rfl rfl rfl rfl Tryd.call127 rfl (word_ctr' _ l17 f8 (by omega)) ?_ | ((with_reducible refine c_grd ?_); (fail_if_success (refine c_lit true rfl rfl rfl ?_)); (fail_if_success (refine c_lit false rfl rfl rfl ?_)); refine c_split rfl rfl (fun _ => ?_) (fun _ => ?_)))
    · have hv9 := hv9 (by omega) ‹_›
      have hv25 := hv25 hv9 (by omega) ‹_›
      refine T.loop hL (fun m : List UInt8 => [(0, .s m)]) (fun _ => []) (fun m => m.length < l.length ∧ validL m = validL l0) (fun m => m.length) l25
        ⟨by omega, hv25⟩ ⟨⟨rfl, trivial⟩, trivial, rfl, by rw [hX]; intro k hk; cases hk⟩ ?_
      clear hv9 hv25 hl25 e25 hf8 f8 hl9 e9 hv1 hl1 e1
      rintro m ⟨q1, q2⟩
      have f8 := cut_from m 8 8 rfl
      have f16 := cut_from m 16 16 rfl
      have f24 := cut_from m 24 24 rfl
      have f32 := cut_from m 32 32 rfl
      have h8 : (m.drop 8).length = m.length - 8 := List.length_drop
      have h16 : (m.drop 16).length = m.length - 16 := List.length_drop
      have h24 : (m.drop 24).length = m.length - 24 := List.length_drop
      have h32 : (m.drop 32).length = m.length - 32 := List.length_drop
      have hv32 : 32 ≤ m.length → bits .and .u64 (bits .or .u64 (bits .or .u64 (wordV m) (wordV (m.drop 8))) (bits .or .u64 (wordV (m.drop 16)) (wordV (m.drop 24)))) 9259542123273814144 = 0 → validL (m.drop 32) = validL l0 := fun h1 h2 => by
        have w0 := wordV_range m
        have w1 := wordV_range (m.drop 8)
        have w2 := wordV_range (m.drop 16)
        have w3 := wordV_range (m.drop 24)
        have o1 := or_range _ _ w0.1 w0.2 w1.1 w1.2
        have o2 := or_range _ _ w2.1 w2.2 w3.1 w3.2
        obtain ⟨a1, a2⟩ := and_or _ _ o1.1 o1.2 o2.1 o2.2 h2
        obtain ⟨b0, b1⟩ := and_or _ _ w0.1 w0.2 w1.1 w1.2 a1
        obtain ⟨b2, b3⟩ := and_or _ _ w2.1 w2.2 w3.1 w3.2 a2
        rw [valid_ascii 32 m h1 (fun j hj => ?_), q2]
        have part : ∀ k : Nat, bits .and .u64 (wordV (m.drop k)) 9259542123273814144 = 0 → k ≤ j → j < k + 8 → at' m j < 128 := fun k hk g1 g2 => by
          have := word_ascii _ hk (j - k) (by omega)
          rw [at_drop, show k + (j - k) = j by omega] at this
          exact this
        by_cases c1 : j < 8
        · exact word_ascii m b0 j c1
        · by_cases c2 : j < 16
          · exact part 8 b1 (by omega) (by omega)
          · by_cases c3 : j < 24
            · exact part 16 b2 (by omega) (by omega)
            · exact part 24 b3 (by omega) (by omega)
      generalize m.drop 8 = m8 at *
      generalize m.drop 16 = m16 at *
      generalize m.drop 24 = m24 at *
      generalize m.drop 32 = m32 at *
      repeat' (first
        | refine T.weakF 0 (.s m32) (.of_eq (congrArg D.s f32)) ?_
        | with_reducible refine t_seq ?_ | with_reducible refine t_region ?_ | with_reducible refine c_nil ?_ | with_reducible refine n_then ?_
        | with_reducible refine t_ret ?_ | with_reducible refine t_skip ?_ | with_reducible refine t_exit ?_ | with_reducible refine t_block ?_
        | with_reducible refine n_block ?_ | with_reducible refine e_then ?_ | with_reducible refine x_then ?_ | with_reducible refine x_block ?_ | with_reducible refine t_draw ?_
        | refine r_val rfl rfl True.intro ?_ | refine r_gskip rfl rfl rfl ?_ | refine r_gskip2 rfl rfl rfl ?_ | refine r_gval rfl rfl rfl rfl True.intro ?_
        | refine t_true rfl ?_ | refine t_false rfl ?_
        | ((first | refine t_cond_d rfl (fun _ => ?_) (fun _ => ?_) | refine t_cond_i rfl (fun _ => ?_) (fun _ => ?_) | refine t_cond_j rfl (fun _ => ?_) (fun _ => ?_) | refine t_cond_s rfl (fun _ => ?_) (fun _ => ?_) | refine t_cond_n rfl (fun _ => ?_) (fun _ => ?_) | refine t_cond rfl (fun _ => ?_) (fun _ => ?_) | refine c_split_d rfl rfl (fun _ => ?_) (fun _ => ?_) | refine c_split_i rfl rfl (fun _ => ?_) (fun _ => ?_) | refine c_split_j rfl rfl (fun _ => ?_) (fun _ => ?_) | refine c_split_s rfl rfl (fun _ => ?_) (fun _ => ?_) | refine c_split_n rfl rfl (fun _ => ?_) (fun _ => ?_)) <;> try (first | (rename_i hz; exact Bool.noConfusion (show true = false from hz)) | (rename_i hz; exact Bool.noConfusion (show false = true from hz)) | (exfalso; omega)))
        | refine r_val rfl rfl (by (first | omega | exact Nat.le_of_ble_eq_true rfl | (simp only [wrap_u8, IntKind.wrap_i64, IntKind.wrap_i32, wrap_u32', wrap_u64', InI]; (repeat' refine And.intro ?_ ?_) <;> omega) | ((repeat' refine And.intro ?_ ?_) <;> first | omega | rfl | exact Nat.le_refl _ | exact Nat.le_of_ble_eq_true rfl | exact bytesF_one _) | (simp_all; done) | (simp_all; omega))) ?_ | refine r_gval rfl rfl rfl rfl (by (first | omega | exact Nat.le_of_ble_eq_true rfl | (simp only [wrap_u8, IntKind.wrap_i64, IntKind.wrap_i32, wrap_u32', wrap_u64', InI]; (repeat' refine And.intro ?_ ?_) <;> omega) | ((repeat' refine And.intro ?_ ?_) <;> first | omega | rfl | exact Nat.le_refl _ | exact Nat.le_of_ble_eq_true rfl | exact bytesF_one _) | (simp_all; done) | (simp_all; omega))) ?_
        | refine r_obj rfl rfl (by (first | omega | exact Nat.le_of_ble_eq_true rfl | (simp only [wrap_u8, IntKind.wrap_i64, IntKind.wrap_i32, wrap_u32', wrap_u64', InI]; (repeat' refine And.intro ?_ ?_) <;> omega) | ((repeat' refine And.intro ?_ ?_) <;> first | omega | rfl | exact Nat.le_refl _ | exact Nat.le_of_ble_eq_true rfl | exact bytesF_one _) | (simp_all; done) | (simp_all; omega))) ?_ | refine r_sto rfl (by (first | omega | exact Nat.le_of_ble_eq_true rfl | (simp only [wrap_u8, IntKind.wrap_i64, IntKind.wrap_i32, wrap_u32', wrap_u64', InI]; (repeat' refine And.intro ?_ ?_) <;> omega) | ((repeat' refine And.intro ?_ ?_) <;> first | omega | rfl | exact Nat.le_refl _ | exact Nat.le_of_ble_eq_true rfl | exact bytesF_one _) | (simp_all; done) | (simp_all; omega))) ?_ | refine r_gobj rfl rfl rfl rfl (by (first | omega | exact Nat.le_of_ble_eq_true rfl | (simp only [wrap_u8, IntKind.wrap_i64, IntKind.wrap_i32, wrap_u32', wrap_u64', InI]; (repeat' refine And.intro ?_ ?_) <;> omega) | ((repeat' refine And.intro ?_ ?_) <;> first | omega | rfl | exact Nat.le_refl _ | exact Nat.le_of_ble_eq_true rfl | exact bytesF_one _) | (simp_all; done) | (simp_all; omega))) ?_
        | refine e_hit rfl ?_ | refine e_miss rfl ?_
        | refine ⟨by kernel_rfl, ?_⟩ | refine x_end rfl ?_ | refine r_gcall (f := 127) rfl rfl rfl rfl Tryd.call127 rfl (word_ctr' _ m rfl (by omega)) ?_ | refine r_gcall (f := 127) rfl rfl rfl rfl Tryd.call127 rfl (word_ctr' _ m8 f8 (by omega)) ?_ | refine r_gcall (f := 127) rfl rfl rfl rfl Tryd.call127 rfl (word_ctr' _ m16 f16 (by omega)) ?_ | refine r_gcall (f := 127) rfl rfl rfl rfl Tryd.call127 rfl (word_ctr' _ m24 f24 (by omega)) ?_ | ((with_reducible refine c_grd ?_); (fail_if_success (refine c_lit true rfl rfl rfl ?_)); (fail_if_success (refine c_lit false rfl rfl rfl ?_)); refine c_split rfl rfl (fun _ => ?_) (fun _ => ?_)))
      · exact ⟨m32, ⟨by omega, hv32 (by omega) ‹_›⟩, by omega, ⟨congrArg D.s f32, trivial⟩, trivial, rfl, by rw [hX]; intro k hk; cases hk⟩
      · exact leaf m _ _ q1 q2 ⟨rfl, trivial⟩
      · exact leaf m _ _ q1 q2 ⟨rfl, trivial⟩
    · exact leaf l9 _ _ (by omega) (hv9 (by omega) ‹_›) ⟨rfl, trivial⟩
    · exact leaf l9 _ _ (by omega) (hv9 (by omega) ‹_›) ⟨rfl, trivial⟩
    · exact leaf l1 _ _ (by omega) hv1 ⟨rfl, trivial⟩
    · exact leaf l1 _ _ (by omega) hv1 ⟨rfl, trivial⟩
  · have hsz := sizes (at' l 0) (by omega) hr.2
    have hF0 : 0 + (at' l 0).toNat * 1 = (at' l 0).toNat := by omega
    rw [← hF0] at hsz
    have hS : IntKind.i64.wrap (bits .and .u8 (firstZ (0 + (at' l 0).toNat * 1)) 7) = firstZ (0 + (at' l 0).toNat * 1) % 8 := by
      have := bits_mask .u8 8 (by decide) wraps_u8 3 (by decide) (firstZ (0 + (at' l 0).toNat * 1)) (by omega) (by omega)
      rw [show (7 : Int) = 2 ^ 3 - 1 by decide, this, IntKind.wrap_i64]
      omega
    have e4 : (2 : Int) ^ Int.toNat 4 = 16 := by decide
    have hA : firstZ (0 + (at' l 0).toNat * 1) / 2 ^ Int.toNat 4 = firstZ (0 + (at' l 0).toNat * 1) / 16 := by rw [e4]
    have hlh : (at' l 0 < 194 ∨ 244 < at' l 0) ∨ (accZ (0 + (firstZ (0 + (at' l 0).toNat * 1) / 2 ^ Int.toNat 4).toNat * 2) = loF (at' l 0) ∧ accZ (0 + (firstZ (0 + (at' l 0).toNat * 1) / 2 ^ Int.toNat 4).toNat * 2 + 1) = hiF (at' l 0)) := by
      rcases hsz with ⟨h, _⟩ | ⟨h, hF⟩ | ⟨h, hF⟩ | ⟨h, hF⟩ | ⟨h, hF⟩ | ⟨h, hF⟩ | ⟨h, hF⟩ | ⟨h, hF⟩
      · exact .inl h
      all_goals
        right
        rw [hF]
        unfold loF hiF
        refine ⟨?_, ?_⟩ <;> (repeat' split) <;> first | rfl | (exfalso; omega)
    have f2 := cut_from l 2 2 rfl
    have f3 := cut_from l 3 3 rfl
    have f4 := cut_from l 4 4 rfl
    have good : ∀ k : Nat, oneL l = k → 2 ≤ k → k ≤ l.length → ∀ (fr : Fr) (ow : Ow), leFr fr [(0, .s (l.drop k))] →
        ∃ y : List UInt8, (y.length ≤ l0.length ∧ validL y = validL l0) ∧ y.length < l.length ∧ Le X fr ow [(0, .s y)] [] := fun k h1 h2 h3 fr ow h4 => by
      have hlen2 : (l.drop k).length = l.length - k := List.length_drop
      refine ⟨l.drop k, ⟨by omega, ?_⟩, by omega, h4, trivial, rfl, by rw [hX]; intro k hk; cases hk⟩
      rw [← g2, validL_step hlen (by omega), h1]
    repeat' (first
      | with_reducible refine t_seq ?_ | with_reducible refine t_region ?_ | with_reducible refine c_nil ?_ | with_reducible refine n_then ?_
      | with_reducible refine t_ret ?_ | with_reducible refine t_skip ?_ | with_reducible refine t_exit ?_ | with_reducible refine t_block ?_
      | with_reducible refine n_block ?_ | with_reducible refine e_then ?_ | with_reducible refine x_then ?_ | with_reducible refine x_block ?_ | with_reducible refine t_draw ?_
      | refine r_val rfl rfl True.intro ?_ | refine r_gskip rfl rfl rfl ?_ | refine r_gskip2 rfl rfl rfl ?_ | refine r_gval rfl rfl rfl rfl True.intro ?_
      | refine t_true rfl ?_ | refine t_false rfl ?_
      | ((first | refine t_cond_d rfl (fun _ => ?_) (fun _ => ?_) | refine t_cond_i rfl (fun _ => ?_) (fun _ => ?_) | refine t_cond_j rfl (fun _ => ?_) (fun _ => ?_) | refine t_cond_s rfl (fun _ => ?_) (fun _ => ?_) | refine t_cond_n rfl (fun _ => ?_) (fun _ => ?_) | refine t_cond rfl (fun _ => ?_) (fun _ => ?_) | refine c_split_d rfl rfl (fun _ => ?_) (fun _ => ?_) | refine c_split_i rfl rfl (fun _ => ?_) (fun _ => ?_) | refine c_split_j rfl rfl (fun _ => ?_) (fun _ => ?_) | refine c_split_s rfl rfl (fun _ => ?_) (fun _ => ?_) | refine c_split_n rfl rfl (fun _ => ?_) (fun _ => ?_)) <;> try (first | (rename_i hz; exact Bool.noConfusion (show true = false from hz)) | (rename_i hz; exact Bool.noConfusion (show false = true from hz)) | (exfalso; omega)))
      | refine r_val rfl rfl (by (first | (rw [hA]; omega) | omega | exact Nat.le_of_ble_eq_true rfl | (simp only [wrap_u8, IntKind.wrap_i64, IntKind.wrap_i32, wrap_u32', wrap_u64', InI]; (repeat' refine And.intro ?_ ?_) <;> omega) | ((repeat' refine And.intro ?_ ?_) <;> first | omega | rfl | exact Nat.le_refl _ | exact Nat.le_of_ble_eq_true rfl | exact bytesF_one _) | (simp_all; done) | (simp_all; omega))) ?_ | refine r_gval rfl rfl rfl rfl (by (first | (rw [hA]; omega) | omega | exact Nat.le_of_ble_eq_true rfl | (simp only [wrap_u8, IntKind.wrap_i64, IntKind.wrap_i32, wrap_u32', wrap_u64', InI]; (repeat' refine And.intro ?_ ?_) <;> omega) | ((repeat' refine And.intro ?_ ?_) <;> first | omega | rfl | exact Nat.le_refl _ | exact Nat.le_of_ble_eq_true rfl | exact bytesF_one _) | (simp_all; done) | (simp_all; omega))) ?_
      | refine r_obj rfl rfl (by (first | (rw [hA]; omega) | omega | exact Nat.le_of_ble_eq_true rfl | (simp only [wrap_u8, IntKind.wrap_i64, IntKind.wrap_i32, wrap_u32', wrap_u64', InI]; (repeat' refine And.intro ?_ ?_) <;> omega) | ((repeat' refine And.intro ?_ ?_) <;> first | omega | rfl | exact Nat.le_refl _ | exact Nat.le_of_ble_eq_true rfl | exact bytesF_one _) | (simp_all; done) | (simp_all; omega))) ?_ | refine r_sto rfl (by (first | (rw [hA]; omega) | omega | exact Nat.le_of_ble_eq_true rfl | (simp only [wrap_u8, IntKind.wrap_i64, IntKind.wrap_i32, wrap_u32', wrap_u64', InI]; (repeat' refine And.intro ?_ ?_) <;> omega) | ((repeat' refine And.intro ?_ ?_) <;> first | omega | rfl | exact Nat.le_refl _ | exact Nat.le_of_ble_eq_true rfl | exact bytesF_one _) | (simp_all; done) | (simp_all; omega))) ?_ | refine r_gobj rfl rfl rfl rfl (by (first | (rw [hA]; omega) | omega | exact Nat.le_of_ble_eq_true rfl | (simp only [wrap_u8, IntKind.wrap_i64, IntKind.wrap_i32, wrap_u32', wrap_u64', InI]; (repeat' refine And.intro ?_ ?_) <;> omega) | ((repeat' refine And.intro ?_ ?_) <;> first | omega | rfl | exact Nat.le_refl _ | exact Nat.le_of_ble_eq_true rfl | exact bytesF_one _) | (simp_all; done) | (simp_all; omega))) ?_
      | refine e_hit rfl ?_ | refine e_miss rfl ?_
      | refine ⟨by kernel_rfl, ?_⟩ | refine x_end rfl ?_ | ((with_reducible refine c_grd ?_); (fail_if_success (refine c_lit true rfl rfl rfl ?_)); (fail_if_success (refine c_lit false rfl rfl rfl ?_)); refine c_split rfl rfl (fun _ => ?_) (fun _ => ?_)))
    all_goals
      first
        | (rw [← g2, validL_bad hlen (by rw [oneL_eq hasc]; (repeat' split) <;> omega)]; done)
        | exact good 2 (by rw [oneL_eq hasc]; (repeat' split) <;> omega) (by omega) (by omega) _ _ ⟨congrArg D.s f2, trivial⟩
        | exact good 3 (by rw [oneL_eq hasc]; (repeat' split) <;> omega) (by omega) (by omega) _ _ ⟨congrArg D.s f3, trivial⟩
        | exact good 4 (by rw [oneL_eq hasc]; (repeat' split) <;> omega) (by omega) (by omega) _ _ ⟨congrArg D.s f4, trivial⟩

end Go.Proofs.YteidmimpkipcfaaDoor.Flow
