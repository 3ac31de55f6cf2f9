/- The texts LibsI, D11, D15, D12, U1, U2, U3, U4, U5, T6, D17a, T2, one behind the other. -/
import Derived.Test.YteidmimpkipcfaaDoorKM5
import Derived.Test.YteidmimpkipcfaaDoorKM7
import Derived.Test.YteidmimpkipcfaaDoorKM8
import Derived.Laws.BitsLemmas
/- LIBS: numbers as texts, by the table of powers of ten. -/
namespace Go.Proofs.YteidmimpkipcfaaDoor.Flow
open Go

/-- The table of powers of ten lies as it is told. -/
theorem pow10_is {S : Cells} {w : World} (hg : GOk S w) : Lib.TabIs Tryd.prog w "internal/strconv.uint64pow10" .u64 Lib.pow10Tab := by
  have hn : Tryd.prog.globalNamed "internal/strconv.uint64pow10" = some 2 := by kernel_rfl
  have h1 := hg.rel 2
  have h2 := (hg.len 2 20 rfl).2
  have h3 : ∀ j, j < 20 → w.cell? ⟨2, j, none⟩ = some (.int .u64 (powZ j)) := by
    cases h1 with
    | rn _ _ _ _ _ _ h => exact fun j hj => (h j hj).2
  have h0 := h3 0 (by decide)
  unfold Lib.TabIs
  simp only [World.var?, hn, Option.bind_some]
  cases hh : w.heap[2]? with
  | none => simp [World.cell?, hh] at h0
  | some o =>
    cases o with
    | cells cs t fr =>
      simp only [Option.some.injEq]
      have h4 : ∀ j, j < 20 → cs[j]? = some (.int .u64 (powZ j)) := fun j hj => by
        have := h3 j hj
        simpa [World.cell?, hh] using this
      have h5 : cs[20]? = none := by simpa [World.cell?, hh] using h2
      apply Array.ext_getElem?
      intro j
      by_cases hj : j < 20
      · rw [h4 j hj]
        simp [Lib.pow10Tab, hj, powZ]
      · have : cs.size ≤ 20 := by simpa using h5
        rw [Array.getElem?_eq_none (by omega), Array.getElem?_eq_none (by simp [Lib.pow10Tab]; omega)]
    | _ => simp [World.cell?, hh] at h0

theorem itoa_ctr (n : Int) (h0 : -9223372036854775808 ≤ n) (h1 : n ≤ 9223372036854775807) : Ctr Tryd.prog 50 [.i .i64 n] (.s (Lib.itoa n)) := by
  intro w S vs hv hg hn hr
  have h := hr 0 (by simp)
  rw [one_of hn]
  generalize vs.getD 0 undef = v0 at *
  cases h
  refine (Tryd.strconv_Itoa n h0 h1 w (pow10_is hg)).mono ?_
  rintro e w' ⟨rfl, k, os, rfl⟩
  exact ⟨_, S, rfl, .s _ _, hist_below hv hg (below_grown w k os)⟩

end Go.Proofs.YteidmimpkipcfaaDoor.Flow

/- DEC: a decimal's text: the two functions. -/
namespace Go.Proofs.YteidmimpkipcfaaDoor.Flow
open Go

theorem text_bad (neg : Bool) (s : List UInt8) (e : Int) (hs : s.length ≤ 1048576) (h : ¬ RightP neg s e) : Ctr Tryd.prog 40 [dcD neg s e] (.s []) := by
  have c1 := right_ctr neg s e (by omega)
  rw [rightB_not h] at c1
  refine r_fun Tryd.func40 rfl Tryd.ntmps40 Tryd.results40 rfl rfl fun X hL hX => ?_
  repeat' (first
    | with_reducible refine t_seq ?_ | with_reducible refine t_region ?_ | with_reducible refine c_nil ?_ | with_reducible refine n_then ?_
    | with_reducible refine t_ret ?_ | with_reducible refine t_skip ?_ | with_reducible refine t_exit ?_ | with_reducible refine t_block ?_
    | with_reducible refine n_block ?_ | with_reducible refine e_then ?_ | with_reducible refine x_then ?_ | with_reducible refine x_block ?_ | with_reducible refine t_draw ?_
    | refine r_val rfl rfl True.intro ?_ | refine r_gskip rfl rfl rfl ?_ | refine r_gskip2 rfl rfl rfl ?_ | refine r_gval rfl rfl rfl rfl True.intro ?_
    | refine t_true rfl ?_ | refine t_false rfl ?_
    | ((first | refine t_cond_d rfl (fun _ => ?_) (fun _ => ?_) | refine t_cond_i rfl (fun _ => ?_) (fun _ => ?_) | refine t_cond_j rfl (fun _ => ?_) (fun _ => ?_) | refine t_cond_s rfl (fun _ => ?_) (fun _ => ?_) | refine t_cond_n rfl (fun _ => ?_) (fun _ => ?_) | refine t_cond rfl (fun _ => ?_) (fun _ => ?_) | refine c_split_d rfl rfl (fun _ => ?_) (fun _ => ?_) | refine c_split_i rfl rfl (fun _ => ?_) (fun _ => ?_) | refine c_split_j rfl rfl (fun _ => ?_) (fun _ => ?_) | refine c_split_s rfl rfl (fun _ => ?_) (fun _ => ?_) | refine c_split_n rfl rfl (fun _ => ?_) (fun _ => ?_)) <;> try (first | contradiction | (exfalso; omega)))
    | refine r_val rfl rfl (by (first | omega | exact Nat.le_of_ble_eq_true rfl | (simp only [wrap_u8, IntKind.wrap_i64, IntKind.wrap_i32, wrap_u32', wrap_u64', InI]; (repeat' refine And.intro ?_ ?_) <;> omega) | ((repeat' refine And.intro ?_ ?_) <;> first | omega | rfl | exact Nat.le_refl _ | exact Nat.le_of_ble_eq_true rfl | exact bytesF_one _) | (simp_all; done) | (simp_all; omega))) ?_ | refine r_gval rfl rfl rfl rfl (by (first | omega | exact Nat.le_of_ble_eq_true rfl | (simp only [wrap_u8, IntKind.wrap_i64, IntKind.wrap_i32, wrap_u32', wrap_u64', InI]; (repeat' refine And.intro ?_ ?_) <;> omega) | ((repeat' refine And.intro ?_ ?_) <;> first | omega | rfl | exact Nat.le_refl _ | exact Nat.le_of_ble_eq_true rfl | exact bytesF_one _) | (simp_all; done) | (simp_all; omega))) ?_
    | refine r_obj rfl rfl (by (first | omega | exact Nat.le_of_ble_eq_true rfl | (simp only [wrap_u8, IntKind.wrap_i64, IntKind.wrap_i32, wrap_u32', wrap_u64', InI]; (repeat' refine And.intro ?_ ?_) <;> omega) | ((repeat' refine And.intro ?_ ?_) <;> first | omega | rfl | exact Nat.le_refl _ | exact Nat.le_of_ble_eq_true rfl | exact bytesF_one _) | (simp_all; done) | (simp_all; omega))) ?_ | refine r_sto rfl (by (first | omega | exact Nat.le_of_ble_eq_true rfl | (simp only [wrap_u8, IntKind.wrap_i64, IntKind.wrap_i32, wrap_u32', wrap_u64', InI]; (repeat' refine And.intro ?_ ?_) <;> omega) | ((repeat' refine And.intro ?_ ?_) <;> first | omega | rfl | exact Nat.le_refl _ | exact Nat.le_of_ble_eq_true rfl | exact bytesF_one _) | (simp_all; done) | (simp_all; omega))) ?_ | refine r_gobj rfl rfl rfl rfl (by (first | omega | exact Nat.le_of_ble_eq_true rfl | (simp only [wrap_u8, IntKind.wrap_i64, IntKind.wrap_i32, wrap_u32', wrap_u64', InI]; (repeat' refine And.intro ?_ ?_) <;> omega) | ((repeat' refine And.intro ?_ ?_) <;> first | omega | rfl | exact Nat.le_refl _ | exact Nat.le_of_ble_eq_true rfl | exact bytesF_one _) | (simp_all; done) | (simp_all; omega))) ?_
    | refine e_hit rfl ?_ | refine e_miss rfl ?_
    | refine ⟨by kernel_rfl, ?_⟩ | refine x_end rfl ?_ | refine r_call (f := 46) rfl rfl Tryd.call46 rfl c1 ?_ | ((with_reducible refine c_grd ?_); (fail_if_success (refine c_lit true rfl rfl rfl ?_)); (fail_if_success (refine c_lit false rfl rfl rfl ?_)); refine c_split rfl rfl (fun _ => ?_) (fun _ => ?_)))
  rfl
theorem rtext_bad (neg : Bool) (s : List UInt8) (e : Int) (hs : s.length ≤ 1048576) (h : ¬ RightP neg s e) : Ctr Tryd.prog 10 [dcD neg s e] (.s []) := by
  have c1 := rright_ctr neg s e (by omega)
  rw [rightB_not h] at c1
  refine r_fun Tryd.func10 rfl Tryd.ntmps10 Tryd.results10 rfl rfl fun X hL hX => ?_
  repeat' (first
    | with_reducible refine t_seq ?_ | with_reducible refine t_region ?_ | with_reducible refine c_nil ?_ | with_reducible refine n_then ?_
    | with_reducible refine t_ret ?_ | with_reducible refine t_skip ?_ | with_reducible refine t_exit ?_ | with_reducible refine t_block ?_
    | with_reducible refine n_block ?_ | with_reducible refine e_then ?_ | with_reducible refine x_then ?_ | with_reducible refine x_block ?_ | with_reducible refine t_draw ?_
    | refine r_val rfl rfl True.intro ?_ | refine r_gskip rfl rfl rfl ?_ | refine r_gskip2 rfl rfl rfl ?_ | refine r_gval rfl rfl rfl rfl True.intro ?_
    | refine t_true rfl ?_ | refine t_false rfl ?_
    | ((first | refine t_cond_d rfl (fun _ => ?_) (fun _ => ?_) | refine t_cond_i rfl (fun _ => ?_) (fun _ => ?_) | refine t_cond_j rfl (fun _ => ?_) (fun _ => ?_) | refine t_cond_s rfl (fun _ => ?_) (fun _ => ?_) | refine t_cond_n rfl (fun _ => ?_) (fun _ => ?_) | refine t_cond rfl (fun _ => ?_) (fun _ => ?_) | refine c_split_d rfl rfl (fun _ => ?_) (fun _ => ?_) | refine c_split_i rfl rfl (fun _ => ?_) (fun _ => ?_) | refine c_split_j rfl rfl (fun _ => ?_) (fun _ => ?_) | refine c_split_s rfl rfl (fun _ => ?_) (fun _ => ?_) | refine c_split_n rfl rfl (fun _ => ?_) (fun _ => ?_)) <;> try (first | contradiction | (exfalso; omega)))
    | refine r_val rfl rfl (by (first | omega | exact Nat.le_of_ble_eq_true rfl | (simp only [wrap_u8, IntKind.wrap_i64, IntKind.wrap_i32, wrap_u32', wrap_u64', InI]; (repeat' refine And.intro ?_ ?_) <;> omega) | ((repeat' refine And.intro ?_ ?_) <;> first | omega | rfl | exact Nat.le_refl _ | exact Nat.le_of_ble_eq_true rfl | exact bytesF_one _) | (simp_all; done) | (simp_all; omega))) ?_ | refine r_gval rfl rfl rfl rfl (by (first | omega | exact Nat.le_of_ble_eq_true rfl | (simp only [wrap_u8, IntKind.wrap_i64, IntKind.wrap_i32, wrap_u32', wrap_u64', InI]; (repeat' refine And.intro ?_ ?_) <;> omega) | ((repeat' refine And.intro ?_ ?_) <;> first | omega | rfl | exact Nat.le_refl _ | exact Nat.le_of_ble_eq_true rfl | exact bytesF_one _) | (simp_all; done) | (simp_all; omega))) ?_
    | refine r_obj rfl rfl (by (first | omega | exact Nat.le_of_ble_eq_true rfl | (simp only [wrap_u8, IntKind.wrap_i64, IntKind.wrap_i32, wrap_u32', wrap_u64', InI]; (repeat' refine And.intro ?_ ?_) <;> omega) | ((repeat' refine And.intro ?_ ?_) <;> first | omega | rfl | exact Nat.le_refl _ | exact Nat.le_of_ble_eq_true rfl | exact bytesF_one _) | (simp_all; done) | (simp_all; omega))) ?_ | refine r_sto rfl (by (first | omega | exact Nat.le_of_ble_eq_true rfl | (simp only [wrap_u8, IntKind.wrap_i64, IntKind.wrap_i32, wrap_u32', wrap_u64', InI]; (repeat' refine And.intro ?_ ?_) <;> omega) | ((repeat' refine And.intro ?_ ?_) <;> first | omega | rfl | exact Nat.le_refl _ | exact Nat.le_of_ble_eq_true rfl | exact bytesF_one _) | (simp_all; done) | (simp_all; omega))) ?_ | refine r_gobj rfl rfl rfl rfl (by (first | omega | exact Nat.le_of_ble_eq_true rfl | (simp only [wrap_u8, IntKind.wrap_i64, IntKind.wrap_i32, wrap_u32', wrap_u64', InI]; (repeat' refine And.intro ?_ ?_) <;> omega) | ((repeat' refine And.intro ?_ ?_) <;> first | omega | rfl | exact Nat.le_refl _ | exact Nat.le_of_ble_eq_true rfl | exact bytesF_one _) | (simp_all; done) | (simp_all; omega))) ?_
    | refine e_hit rfl ?_ | refine e_miss rfl ?_
    | refine ⟨by kernel_rfl, ?_⟩ | refine x_end rfl ?_ | refine r_call (f := 42) rfl rfl Tryd.call42 rfl c1 ?_ | ((with_reducible refine c_grd ?_); (fail_if_success (refine c_lit true rfl rfl rfl ?_)); (fail_if_success (refine c_lit false rfl rfl rfl ?_)); refine c_split rfl rfl (fun _ => ?_) (fun _ => ?_)))
  rfl

section
variable {s : List UInt8} {e : Int}
theorem textU_1 (h : 0 ≤ e) (h2 : s.length + e ≤ 21) : textU s e = s ++ zs e.toNat := if_pos ⟨h, h2⟩
theorem textU_2 (h : ¬ (0 ≤ e ∧ s.length + e ≤ 21)) (h2 : 1 ≤ s.length + e) (h3 : s.length + e < s.length) : textU s e = s.take (s.length + e).toNat ++ [46] ++ s.drop (s.length + e).toNat := by
  unfold textU
  rw [if_neg h, if_pos ⟨h2, h3⟩]
theorem textU_3 (h : ¬ (0 ≤ e ∧ s.length + e ≤ 21)) (h2 : -6 ≤ s.length + e) (h3 : s.length + e ≤ 0) : textU s e = [48, 46] ++ zs (-(s.length + e)).toNat ++ s := by
  unfold textU
  rw [if_neg h, if_neg (by omega), if_pos ⟨h2, h3⟩]
theorem textU_4 (h : ¬ (0 ≤ e ∧ s.length + e ≤ 21)) (h2 : ¬ (1 ≤ s.length + e ∧ s.length + e < s.length)) (h3 : ¬ (-6 ≤ s.length + e ∧ s.length + e ≤ 0)) : textU s e = s.take 1 ++ (if 1 < s.length then [46] ++ s.drop 1 else []) ++ [101] ++ Lib.itoa (s.length + e - 1) := by
  unfold textU
  rw [if_neg h, if_neg h2, if_neg h3]
end

set_option maxHeartbeats 2000000 in
theorem text_ok (neg : Bool) (s : List UInt8) (e : Int) (h : RightP neg s e) (h0 : ¬ s.length = 0) : Ctr Tryd.prog 40 [dcD neg s e] (.s ((if neg = true then [45] else []) ++ textU s e)) := by
  obtain ⟨b1, b2, b3, b4⟩ := h.bounds
  have c1 := right_ctr neg s e (by omega)
  rw [rightB_iff.2 h] at c1
  have c2 := fun h => rep_ctr e h (by omega)
  have c3 := fun h => rep_ctr (-(s.length + e)) h (by omega)
  have c4 := itoa_ctr (s.length + e - 1) (by omega) (by omega)
  have l4 := itoa_len (s.length + e - 1) (by omega) (by omega)
  have u1 := fun h h2 => textU_1 (s := s) (e := e) h h2
  have u2 := fun h h2 h3 => textU_2 (s := s) (e := e) h h2 h3
  have u3 := fun h h2 h3 => textU_3 (s := s) (e := e) h h2 h3
  have u4 := fun h h2 h3 => textU_4 (s := s) (e := e) h h2 h3
  have lz : ∀ n : Nat, (zs n).length = n := fun n => by simp
  generalize textU s e = U at *
  generalize Lib.itoa (s.length + e - 1) = I at *
  clear h
  refine r_fun Tryd.func40 rfl Tryd.ntmps40 Tryd.results40 rfl rfl fun X hL hX => ?_
  cases neg with
  | false =>
    repeat' (first
      | with_reducible refine t_seq ?_ | with_reducible refine t_region ?_ | with_reducible refine c_nil ?_ | with_reducible refine n_then ?_
      | with_reducible refine t_ret ?_ | with_reducible refine t_skip ?_ | with_reducible refine t_exit ?_ | with_reducible refine t_block ?_
      | with_reducible refine n_block ?_ | with_reducible refine e_then ?_ | with_reducible refine x_then ?_ | with_reducible refine x_block ?_ | with_reducible refine t_draw ?_
      | refine r_val rfl rfl True.intro ?_ | refine r_gskip rfl rfl rfl ?_ | refine r_gskip2 rfl rfl rfl ?_ | refine r_gval rfl rfl rfl rfl True.intro ?_
      | refine t_true rfl ?_ | refine t_false rfl ?_
      | ((first | refine t_cond_d rfl (fun _ => ?_) (fun _ => ?_) | refine t_cond_i rfl (fun _ => ?_) (fun _ => ?_) | refine t_cond_j rfl (fun _ => ?_) (fun _ => ?_) | refine t_cond_s rfl (fun _ => ?_) (fun _ => ?_) | refine t_cond_n rfl (fun _ => ?_) (fun _ => ?_) | refine t_cond rfl (fun _ => ?_) (fun _ => ?_) | refine c_split_d rfl rfl (fun _ => ?_) (fun _ => ?_) | refine c_split_i rfl rfl (fun _ => ?_) (fun _ => ?_) | refine c_split_j rfl rfl (fun _ => ?_) (fun _ => ?_) | refine c_split_s rfl rfl (fun _ => ?_) (fun _ => ?_) | refine c_split_n rfl rfl (fun _ => ?_) (fun _ => ?_)) <;> try (first | (rename_i hz; exact Bool.noConfusion (show true = false from hz)) | (rename_i hz; exact Bool.noConfusion (show false = true from hz)) | (exfalso; omega)))
      | refine r_val rfl rfl (by (first | (simp only [List.length_append, List.length_drop, List.length_take, lz, Array.length_toList, List.size_toArray, List.length_cons, List.length_nil]; omega) | omega | exact Nat.le_of_ble_eq_true rfl | (simp only [wrap_u8, IntKind.wrap_i64, IntKind.wrap_i32, wrap_u32', wrap_u64', InI]; (repeat' refine And.intro ?_ ?_) <;> omega) | ((repeat' refine And.intro ?_ ?_) <;> first | omega | rfl | exact Nat.le_refl _ | exact Nat.le_of_ble_eq_true rfl | exact bytesF_one _) | (simp_all; done) | (simp_all; omega))) ?_ | refine r_gval rfl rfl rfl rfl (by (first | (simp only [List.length_append, List.length_drop, List.length_take, lz, Array.length_toList, List.size_toArray, List.length_cons, List.length_nil]; omega) | omega | exact Nat.le_of_ble_eq_true rfl | (simp only [wrap_u8, IntKind.wrap_i64, IntKind.wrap_i32, wrap_u32', wrap_u64', InI]; (repeat' refine And.intro ?_ ?_) <;> omega) | ((repeat' refine And.intro ?_ ?_) <;> first | omega | rfl | exact Nat.le_refl _ | exact Nat.le_of_ble_eq_true rfl | exact bytesF_one _) | (simp_all; done) | (simp_all; omega))) ?_
      | refine r_obj rfl rfl (by (first | (simp only [List.length_append, List.length_drop, List.length_take, lz, Array.length_toList, List.size_toArray, List.length_cons, List.length_nil]; omega) | omega | exact Nat.le_of_ble_eq_true rfl | (simp only [wrap_u8, IntKind.wrap_i64, IntKind.wrap_i32, wrap_u32', wrap_u64', InI]; (repeat' refine And.intro ?_ ?_) <;> omega) | ((repeat' refine And.intro ?_ ?_) <;> first | omega | rfl | exact Nat.le_refl _ | exact Nat.le_of_ble_eq_true rfl | exact bytesF_one _) | (simp_all; done) | (simp_all; omega))) ?_ | refine r_sto rfl (by (first | (simp only [List.length_append, List.length_drop, List.length_take, lz, Array.length_toList, List.size_toArray, List.length_cons, List.length_nil]; omega) | omega | exact Nat.le_of_ble_eq_true rfl | (simp only [wrap_u8, IntKind.wrap_i64, IntKind.wrap_i32, wrap_u32', wrap_u64', InI]; (repeat' refine And.intro ?_ ?_) <;> omega) | ((repeat' refine And.intro ?_ ?_) <;> first | omega | rfl | exact Nat.le_refl _ | exact Nat.le_of_ble_eq_true rfl | exact bytesF_one _) | (simp_all; done) | (simp_all; omega))) ?_ | refine r_gobj rfl rfl rfl rfl (by (first | (simp only [List.length_append, List.length_drop, List.length_take, lz, Array.length_toList, List.size_toArray, List.length_cons, List.length_nil]; omega) | omega | exact Nat.le_of_ble_eq_true rfl | (simp only [wrap_u8, IntKind.wrap_i64, IntKind.wrap_i32, wrap_u32', wrap_u64', InI]; (repeat' refine And.intro ?_ ?_) <;> omega) | ((repeat' refine And.intro ?_ ?_) <;> first | omega | rfl | exact Nat.le_refl _ | exact Nat.le_of_ble_eq_true rfl | exact bytesF_one _) | (simp_all; done) | (simp_all; omega))) ?_
      | refine e_hit rfl ?_ | refine e_miss rfl ?_
      | refine ⟨by kernel_rfl, ?_⟩ | refine x_end rfl ?_ | refine r_call (f := 46) rfl rfl Tryd.call46 rfl c1 ?_ | refine r_call (f := 83) rfl rfl Tryd.call83 rfl (c2 (by omega)) ?_ | refine r_call (f := 83) rfl rfl Tryd.call83 rfl (c3 (by omega)) ?_ | refine r_call (f := 50) rfl rfl Tryd.call50 rfl c4 ?_ | ((with_reducible refine c_grd ?_); (fail_if_success (refine c_lit true rfl rfl rfl ?_)); (fail_if_success (refine c_lit false rfl rfl rfl ?_)); refine c_split rfl rfl (fun _ => ?_) (fun _ => ?_)))
    · rw [u1 (by omega) (by omega)]
      exact congrArg D.s (by simp)
    · rw [u4 (by omega) (by omega) (by omega), if_pos (show 1 < s.length by omega)]
      exact congrArg D.s (by simp)
    · rw [u4 (by omega) (by omega) (by omega), if_neg (show ¬ 1 < s.length by omega)]
      exact congrArg D.s (by simp)
    · rw [u2 (by omega) (by omega) (by omega)]
      exact congrArg D.s (by simp)
    · rw [u3 (by omega) (by omega) (by omega)]
      exact congrArg D.s (by simp)
    · rw [u4 (by omega) (by omega) (by omega), if_pos (show 1 < s.length by omega)]
      exact congrArg D.s (by simp)
    · rw [u4 (by omega) (by omega) (by omega), if_neg (show ¬ 1 < s.length by omega)]
      exact congrArg D.s (by simp)
  | true =>
    repeat' (first
      | with_reducible refine t_seq ?_ | with_reducible refine t_region ?_ | with_reducible refine c_nil ?_ | with_reducible refine n_then ?_
      | with_reducible refine t_ret ?_ | with_reducible refine t_skip ?_ | with_reducible refine t_exit ?_ | with_reducible refine t_block ?_
      | with_reducible refine n_block ?_ | with_reducible refine e_then ?_ | with_reducible refine x_then ?_ | with_reducible refine x_block ?_ | with_reducible refine t_draw ?_
      | refine r_val rfl rfl True.intro ?_ | refine r_gskip rfl rfl rfl ?_ | refine r_gskip2 rfl rfl rfl ?_ | refine r_gval rfl rfl rfl rfl True.intro ?_
      | refine t_true rfl ?_ | refine t_false rfl ?_
      | ((first | refine t_cond_d rfl (fun _ => ?_) (fun _ => ?_) | refine t_cond_i rfl (fun _ => ?_) (fun _ => ?_) | refine t_cond_j rfl (fun _ => ?_) (fun _ => ?_) | refine t_cond_s rfl (fun _ => ?_) (fun _ => ?_) | refine t_cond_n rfl (fun _ => ?_) (fun _ => ?_) | refine t_cond rfl (fun _ => ?_) (fun _ => ?_) | refine c_split_d rfl rfl (fun _ => ?_) (fun _ => ?_) | refine c_split_i rfl rfl (fun _ => ?_) (fun _ => ?_) | refine c_split_j rfl rfl (fun _ => ?_) (fun _ => ?_) | refine c_split_s rfl rfl (fun _ => ?_) (fun _ => ?_) | refine c_split_n rfl rfl (fun _ => ?_) (fun _ => ?_)) <;> try (first | (rename_i hz; exact Bool.noConfusion (show true = false from hz)) | (rename_i hz; exact Bool.noConfusion (show false = true from hz)) | (exfalso; omega)))
      | refine r_val rfl rfl (by (first | (simp only [List.length_append, List.length_drop, List.length_take, lz, Array.length_toList, List.size_toArray, List.length_cons, List.length_nil]; omega) | omega | exact Nat.le_of_ble_eq_true rfl | (simp only [wrap_u8, IntKind.wrap_i64, IntKind.wrap_i32, wrap_u32', wrap_u64', InI]; (repeat' refine And.intro ?_ ?_) <;> omega) | ((repeat' refine And.intro ?_ ?_) <;> first | omega | rfl | exact Nat.le_refl _ | exact Nat.le_of_ble_eq_true rfl | exact bytesF_one _) | (simp_all; done) | (simp_all; omega))) ?_ | refine r_gval rfl rfl rfl rfl (by (first | (simp only [List.length_append, List.length_drop, List.length_take, lz, Array.length_toList, List.size_toArray, List.length_cons, List.length_nil]; omega) | omega | exact Nat.le_of_ble_eq_true rfl | (simp only [wrap_u8, IntKind.wrap_i64, IntKind.wrap_i32, wrap_u32', wrap_u64', InI]; (repeat' refine And.intro ?_ ?_) <;> omega) | ((repeat' refine And.intro ?_ ?_) <;> first | omega | rfl | exact Nat.le_refl _ | exact Nat.le_of_ble_eq_true rfl | exact bytesF_one _) | (simp_all; done) | (simp_all; omega))) ?_
      | refine r_obj rfl rfl (by (first | (simp only [List.length_append, List.length_drop, List.length_take, lz, Array.length_toList, List.size_toArray, List.length_cons, List.length_nil]; omega) | omega | exact Nat.le_of_ble_eq_true rfl | (simp only [wrap_u8, IntKind.wrap_i64, IntKind.wrap_i32, wrap_u32', wrap_u64', InI]; (repeat' refine And.intro ?_ ?_) <;> omega) | ((repeat' refine And.intro ?_ ?_) <;> first | omega | rfl | exact Nat.le_refl _ | exact Nat.le_of_ble_eq_true rfl | exact bytesF_one _) | (simp_all; done) | (simp_all; omega))) ?_ | refine r_sto rfl (by (first | (simp only [List.length_append, List.length_drop, List.length_take, lz, Array.length_toList, List.size_toArray, List.length_cons, List.length_nil]; omega) | omega | exact Nat.le_of_ble_eq_true rfl | (simp only [wrap_u8, IntKind.wrap_i64, IntKind.wrap_i32, wrap_u32', wrap_u64', InI]; (repeat' refine And.intro ?_ ?_) <;> omega) | ((repeat' refine And.intro ?_ ?_) <;> first | omega | rfl | exact Nat.le_refl _ | exact Nat.le_of_ble_eq_true rfl | exact bytesF_one _) | (simp_all; done) | (simp_all; omega))) ?_ | refine r_gobj rfl rfl rfl rfl (by (first | (simp only [List.length_append, List.length_drop, List.length_take, lz, Array.length_toList, List.size_toArray, List.length_cons, List.length_nil]; omega) | omega | exact Nat.le_of_ble_eq_true rfl | (simp only [wrap_u8, IntKind.wrap_i64, IntKind.wrap_i32, wrap_u32', wrap_u64', InI]; (repeat' refine And.intro ?_ ?_) <;> omega) | ((repeat' refine And.intro ?_ ?_) <;> first | omega | rfl | exact Nat.le_refl _ | exact Nat.le_of_ble_eq_true rfl | exact bytesF_one _) | (simp_all; done) | (simp_all; omega))) ?_
      | refine e_hit rfl ?_ | refine e_miss rfl ?_
      | refine ⟨by kernel_rfl, ?_⟩ | refine x_end rfl ?_ | refine r_call (f := 46) rfl rfl Tryd.call46 rfl c1 ?_ | refine r_call (f := 83) rfl rfl Tryd.call83 rfl (c2 (by omega)) ?_ | refine r_call (f := 83) rfl rfl Tryd.call83 rfl (c3 (by omega)) ?_ | refine r_call (f := 50) rfl rfl Tryd.call50 rfl c4 ?_ | ((with_reducible refine c_grd ?_); (fail_if_success (refine c_lit true rfl rfl rfl ?_)); (fail_if_success (refine c_lit false rfl rfl rfl ?_)); refine c_split rfl rfl (fun _ => ?_) (fun _ => ?_)))
    · rw [u1 (by omega) (by omega)]
      exact congrArg D.s (by simp)
    · rw [u4 (by omega) (by omega) (by omega), if_pos (show 1 < s.length by omega)]
      exact congrArg D.s (by simp)
    · rw [u4 (by omega) (by omega) (by omega), if_neg (show ¬ 1 < s.length by omega)]
      exact congrArg D.s (by simp)
    · rw [u2 (by omega) (by omega) (by omega)]
      exact congrArg D.s (by simp)
    · rw [u3 (by omega) (by omega) (by omega)]
      exact congrArg D.s (by simp)
    · rw [u4 (by omega) (by omega) (by omega), if_pos (show 1 < s.length by omega)]
      exact congrArg D.s (by simp)
    · rw [u4 (by omega) (by omega) (by omega), if_neg (show ¬ 1 < s.length by omega)]
      exact congrArg D.s (by simp)

end Go.Proofs.YteidmimpkipcfaaDoor.Flow

/- DEC: a right decimal's text, with a space and anything behind it, is read as it was. -/
namespace Go.Proofs.YteidmimpkipcfaaDoor.Flow
open Go

section
variable {x r ds : List UInt8} {a : UInt8} {i : Nat}

theorem drop_lt {l : List UInt8} (h : x.drop i = a :: l) : i < x.length := by
  by_cases hi : i < x.length
  · exact hi
  · rw [List.drop_eq_nil_of_le (by omega)] at h
    cases h

theorem drop_at (h : x.drop i = a :: r) : at' x i = (a.toNat : Int) := by
  have hi := drop_lt h
  rw [drop_cons hi] at h
  have := (List.cons.inj h).1
  unfold at'
  rw [Int.toNat_natCast, this]

theorem sat_of {c : Int} (h : x.drop i = a :: r) : sat x i c ↔ (a.toNat : Int) = c := by
  unfold sat
  rw [drop_at h]
  exact ⟨fun h => h.2, fun h2 => ⟨drop_lt h, h2⟩⟩

theorem whN_zero (h : x.drop i = 48 :: r) : whN x i = ([48], i + 1) := whN_pos ((sat_of h).2 rfl)

theorem parse_of {pw : List UInt8 → Int} {g i1 i2 i3 : Nat} {neg : Bool} {w f : List UInt8} {k : Int} {d : Bool × List UInt8 × Int} (hg : sg0 x = g) (hn : decide (sat x 0 45) = neg) (hw : whN x g = (w, i1)) (h0 : ¬ w = []) (hf : frN x i1 = (f, i2))
    (hx : exN pw x i2 = (k, i3)) (hr : normF neg (w ++ f) (k - f.length) = (d, 0)) : parseG pw x = (d, i3, 0) := by
  unfold parseG
  rw [hg, hw]
  dsimp only
  rw [if_neg h0, hf]
  dsimp only
  rw [hx, hn]
  dsimp only
  rw [hr]
  rfl

end

/-- The sign ahead of digits. -/
abbrev sgL (neg : Bool) : List UInt8 := if neg = true then [45] else []

theorem sg_of (neg : Bool) {c : UInt8} {r : List UInt8} (hc : isD c = true) : sg0 (sgL neg ++ c :: r) = (sgL neg).length ∧ decide (sat (sgL neg ++ c :: r) 0 45) = neg ∧ (sgL neg ++ c :: r).drop (sgL neg).length = c :: r := by
  have hc := isD_nat hc
  refine ⟨?_, ?_, List.drop_left⟩
  · cases neg with
    | true =>
      unfold sg0
      rw [if_pos]
      · rfl
      · exact (sat_of (a := 45) (r := c :: r) rfl).2 rfl
    | false =>
      unfold sg0
      rw [if_neg]
      · rfl
      · show ¬ sat (c :: r) 0 45
        rw [sat_of (a := c) (r := r) rfl]
        omega
  · cases neg with
    | true =>
      exact decide_eq_true ((sat_of (a := 45) (r := c :: r) rfl).2 rfl)
    | false =>
      refine decide_eq_false ?_
      show ¬ sat (c :: r) 0 45
      rw [sat_of (a := c) (r := r) rfl]
      omega

end Go.Proofs.YteidmimpkipcfaaDoor.Flow

/- DEC: the program: a number times a power of ten. -/
namespace Go.Proofs.YteidmimpkipcfaaDoor.Flow
open Go

theorem itoa_abs (n : Int) : (n < 0 → Lib.itoa n = 45 :: Lib.decDigits n.natAbs) ∧ (¬ n < 0 → Lib.itoa n = Lib.decDigits n.natAbs) := by
  unfold Lib.itoa
  constructor
  · intro h
    rw [if_pos h]
  · intro h
    rw [if_neg h, show n.toNat = n.natAbs by omega]

theorem of_ctr (n e : Int) (h0 : -9223372036854775808 ≤ n) (h1 : n ≤ 9223372036854775807) : Ctr Tryd.prog 14 [.i .i64 n, .i .i64 e] (dcV (ofF n e)) := by
  have c1 := itoa_ctr n h0 h1
  obtain ⟨i1, i2⟩ := itoa_abs n
  have hlD := dec_len n.natAbs 19 (by omega) (by omega)
  have c2 := fun h : -2000 ≤ e ∧ e ≤ 2000 => norm_ctr (decide (n < 0)) (Lib.decDigits n.natAbs) e (by omega) (by omega) (by omega)
  generalize hR : ofF n e = R
  unfold ofF at hR
  replace hR := fun _ : Unit => hR.symm
  generalize normF (decide (n < 0)) (Lib.decDigits n.natAbs) e = N at *
  by_cases hn : n < 0
  · rw [i1 hn] at c1
    clear i1 i2
    generalize Lib.decDigits n.natAbs = D at *
    have hD : List.drop (Int.toNat 1) (List.take (((45 :: D).length : Nat) : Int).toNat (45 :: D)) = D := by
      rw [Int.toNat_natCast, List.take_length]
      rfl
    rw [← hD] at c2
    clear hD
    refine r_fun Tryd.func14 rfl Tryd.ntmps14 Tryd.results14 rfl rfl fun X hL hX => ?_
    repeat' (first
      | with_reducible refine t_seq ?_ | with_reducible refine t_region ?_ | with_reducible refine c_nil ?_ | with_reducible refine n_then ?_
      | with_reducible refine t_ret ?_ | with_reducible refine t_skip ?_ | with_reducible refine t_exit ?_ | with_reducible refine t_block ?_
      | with_reducible refine n_block ?_ | with_reducible refine e_then ?_ | with_reducible refine x_then ?_ | with_reducible refine x_block ?_ | with_reducible refine t_draw ?_
      | refine r_val rfl rfl True.intro ?_ | refine r_gskip rfl rfl rfl ?_ | refine r_gskip2 rfl rfl rfl ?_ | refine r_gval rfl rfl rfl rfl True.intro ?_
      | refine t_true rfl ?_ | refine t_false rfl ?_
      | ((first | refine t_cond_d rfl (fun _ => ?_) (fun _ => ?_) | refine t_cond_i rfl (fun _ => ?_) (fun _ => ?_) | refine t_cond_j rfl (fun _ => ?_) (fun _ => ?_) | refine t_cond_s rfl (fun _ => ?_) (fun _ => ?_) | refine t_cond_n rfl (fun _ => ?_) (fun _ => ?_) | refine t_cond rfl (fun _ => ?_) (fun _ => ?_) | refine c_split_d rfl rfl (fun _ => ?_) (fun _ => ?_) | refine c_split_i rfl rfl (fun _ => ?_) (fun _ => ?_) | refine c_split_j rfl rfl (fun _ => ?_) (fun _ => ?_) | refine c_split_s rfl rfl (fun _ => ?_) (fun _ => ?_) | refine c_split_n rfl rfl (fun _ => ?_) (fun _ => ?_)) <;> try (first | (rename_i hz; exact Bool.noConfusion (show true = false from hz)) | (rename_i hz; exact Bool.noConfusion (show false = true from hz)) | (exfalso; omega)))
      | refine r_val rfl rfl (by (first | (simp only [List.length_cons]; omega) | omega | exact Nat.le_of_ble_eq_true rfl | (simp only [wrap_u8, IntKind.wrap_i64, IntKind.wrap_i32, wrap_u32', wrap_u64', InI]; (repeat' refine And.intro ?_ ?_) <;> omega) | ((repeat' refine And.intro ?_ ?_) <;> first | omega | rfl | exact Nat.le_refl _ | exact Nat.le_of_ble_eq_true rfl | exact bytesF_one _) | (simp_all; done) | (simp_all; omega))) ?_ | refine r_gval rfl rfl rfl rfl (by (first | (simp only [List.length_cons]; omega) | omega | exact Nat.le_of_ble_eq_true rfl | (simp only [wrap_u8, IntKind.wrap_i64, IntKind.wrap_i32, wrap_u32', wrap_u64', InI]; (repeat' refine And.intro ?_ ?_) <;> omega) | ((repeat' refine And.intro ?_ ?_) <;> first | omega | rfl | exact Nat.le_refl _ | exact Nat.le_of_ble_eq_true rfl | exact bytesF_one _) | (simp_all; done) | (simp_all; omega))) ?_
      | refine r_obj rfl rfl (by (first | (simp only [List.length_cons]; omega) | omega | exact Nat.le_of_ble_eq_true rfl | (simp only [wrap_u8, IntKind.wrap_i64, IntKind.wrap_i32, wrap_u32', wrap_u64', InI]; (repeat' refine And.intro ?_ ?_) <;> omega) | ((repeat' refine And.intro ?_ ?_) <;> first | omega | rfl | exact Nat.le_refl _ | exact Nat.le_of_ble_eq_true rfl | exact bytesF_one _) | (simp_all; done) | (simp_all; omega))) ?_ | refine r_sto rfl (by (first | (simp only [List.length_cons]; omega) | omega | exact Nat.le_of_ble_eq_true rfl | (simp only [wrap_u8, IntKind.wrap_i64, IntKind.wrap_i32, wrap_u32', wrap_u64', InI]; (repeat' refine And.intro ?_ ?_) <;> omega) | ((repeat' refine And.intro ?_ ?_) <;> first | omega | rfl | exact Nat.le_refl _ | exact Nat.le_of_ble_eq_true rfl | exact bytesF_one _) | (simp_all; done) | (simp_all; omega))) ?_ | refine r_gobj rfl rfl rfl rfl (by (first | (simp only [List.length_cons]; omega) | omega | exact Nat.le_of_ble_eq_true rfl | (simp only [wrap_u8, IntKind.wrap_i64, IntKind.wrap_i32, wrap_u32', wrap_u64', InI]; (repeat' refine And.intro ?_ ?_) <;> omega) | ((repeat' refine And.intro ?_ ?_) <;> first | omega | rfl | exact Nat.le_refl _ | exact Nat.le_of_ble_eq_true rfl | exact bytesF_one _) | (simp_all; done) | (simp_all; omega))) ?_
      | refine e_hit rfl ?_ | refine e_miss rfl ?_
      | refine ⟨by kernel_rfl, ?_⟩ | refine x_end rfl ?_ | refine r_call (f := 50) rfl rfl Tryd.call50 rfl c1 ?_ | refine r_call (f := 51) rfl rfl Tryd.call51 rfl (c2 (by omega)) ?_ | ((with_reducible refine c_grd ?_); (fail_if_success (refine c_lit true rfl rfl rfl ?_)); (fail_if_success (refine c_lit false rfl rfl rfl ?_)); refine c_split rfl rfl (fun _ => ?_) (fun _ => ?_)))
    all_goals
      rw [hR ()]
      first
        | rw [if_pos (by omega)]; done
        | (rw [if_pos (by omega)]; rfl)
        | rw [if_neg (by omega)]; done
        | (rw [if_neg (by omega)]; rfl)
  · rw [i2 hn] at c1
    clear i1 i2
    generalize Lib.decDigits n.natAbs = D at *
    refine r_fun Tryd.func14 rfl Tryd.ntmps14 Tryd.results14 rfl rfl fun X hL hX => ?_
    repeat' (first
      | with_reducible refine t_seq ?_ | with_reducible refine t_region ?_ | with_reducible refine c_nil ?_ | with_reducible refine n_then ?_
      | with_reducible refine t_ret ?_ | with_reducible refine t_skip ?_ | with_reducible refine t_exit ?_ | with_reducible refine t_block ?_
      | with_reducible refine n_block ?_ | with_reducible refine e_then ?_ | with_reducible refine x_then ?_ | with_reducible refine x_block ?_ | with_reducible refine t_draw ?_
      | refine r_val rfl rfl True.intro ?_ | refine r_gskip rfl rfl rfl ?_ | refine r_gskip2 rfl rfl rfl ?_ | refine r_gval rfl rfl rfl rfl True.intro ?_
      | refine t_true rfl ?_ | refine t_false rfl ?_
      | ((first | refine t_cond_d rfl (fun _ => ?_) (fun _ => ?_) | refine t_cond_i rfl (fun _ => ?_) (fun _ => ?_) | refine t_cond_j rfl (fun _ => ?_) (fun _ => ?_) | refine t_cond_s rfl (fun _ => ?_) (fun _ => ?_) | refine t_cond_n rfl (fun _ => ?_) (fun _ => ?_) | refine t_cond rfl (fun _ => ?_) (fun _ => ?_) | refine c_split_d rfl rfl (fun _ => ?_) (fun _ => ?_) | refine c_split_i rfl rfl (fun _ => ?_) (fun _ => ?_) | refine c_split_j rfl rfl (fun _ => ?_) (fun _ => ?_) | refine c_split_s rfl rfl (fun _ => ?_) (fun _ => ?_) | refine c_split_n rfl rfl (fun _ => ?_) (fun _ => ?_)) <;> try (first | (rename_i hz; exact Bool.noConfusion (show true = false from hz)) | (rename_i hz; exact Bool.noConfusion (show false = true from hz)) | (exfalso; omega)))
      | refine r_val rfl rfl (by (first | omega | exact Nat.le_of_ble_eq_true rfl | (simp only [wrap_u8, IntKind.wrap_i64, IntKind.wrap_i32, wrap_u32', wrap_u64', InI]; (repeat' refine And.intro ?_ ?_) <;> omega) | ((repeat' refine And.intro ?_ ?_) <;> first | omega | rfl | exact Nat.le_refl _ | exact Nat.le_of_ble_eq_true rfl | exact bytesF_one _) | (simp_all; done) | (simp_all; omega))) ?_ | refine r_gval rfl rfl rfl rfl (by (first | omega | exact Nat.le_of_ble_eq_true rfl | (simp only [wrap_u8, IntKind.wrap_i64, IntKind.wrap_i32, wrap_u32', wrap_u64', InI]; (repeat' refine And.intro ?_ ?_) <;> omega) | ((repeat' refine And.intro ?_ ?_) <;> first | omega | rfl | exact Nat.le_refl _ | exact Nat.le_of_ble_eq_true rfl | exact bytesF_one _) | (simp_all; done) | (simp_all; omega))) ?_
      | refine r_obj rfl rfl (by (first | omega | exact Nat.le_of_ble_eq_true rfl | (simp only [wrap_u8, IntKind.wrap_i64, IntKind.wrap_i32, wrap_u32', wrap_u64', InI]; (repeat' refine And.intro ?_ ?_) <;> omega) | ((repeat' refine And.intro ?_ ?_) <;> first | omega | rfl | exact Nat.le_refl _ | exact Nat.le_of_ble_eq_true rfl | exact bytesF_one _) | (simp_all; done) | (simp_all; omega))) ?_ | refine r_sto rfl (by (first | omega | exact Nat.le_of_ble_eq_true rfl | (simp only [wrap_u8, IntKind.wrap_i64, IntKind.wrap_i32, wrap_u32', wrap_u64', InI]; (repeat' refine And.intro ?_ ?_) <;> omega) | ((repeat' refine And.intro ?_ ?_) <;> first | omega | rfl | exact Nat.le_refl _ | exact Nat.le_of_ble_eq_true rfl | exact bytesF_one _) | (simp_all; done) | (simp_all; omega))) ?_ | refine r_gobj rfl rfl rfl rfl (by (first | omega | exact Nat.le_of_ble_eq_true rfl | (simp only [wrap_u8, IntKind.wrap_i64, IntKind.wrap_i32, wrap_u32', wrap_u64', InI]; (repeat' refine And.intro ?_ ?_) <;> omega) | ((repeat' refine And.intro ?_ ?_) <;> first | omega | rfl | exact Nat.le_refl _ | exact Nat.le_of_ble_eq_true rfl | exact bytesF_one _) | (simp_all; done) | (simp_all; omega))) ?_
      | refine e_hit rfl ?_ | refine e_miss rfl ?_
      | refine ⟨by kernel_rfl, ?_⟩ | refine x_end rfl ?_ | refine r_call (f := 50) rfl rfl Tryd.call50 rfl c1 ?_ | refine r_call (f := 51) rfl rfl Tryd.call51 rfl (c2 (by omega)) ?_ | ((with_reducible refine c_grd ?_); (fail_if_success (refine c_lit true rfl rfl rfl ?_)); (fail_if_success (refine c_lit false rfl rfl rfl ?_)); refine c_split rfl rfl (fun _ => ?_) (fun _ => ?_)))
    all_goals
      rw [hR ()]
      first
        | rw [if_pos (by omega)]; done
        | (rw [if_pos (by omega)]; rfl)
        | rw [if_neg (by omega)]; done
        | (rw [if_neg (by omega)]; rfl)

end Go.Proofs.YteidmimpkipcfaaDoor.Flow

/- UTF: the program's reader: a byte, four digits. -/
namespace Go.Proofs.YteidmimpkipcfaaDoor.Flow
open Go

/-- A digit's value; -1: none. -/
def hexF (c : Int) : Int := if 48 ≤ c ∧ c ≤ 57 then c - 48 else if 97 ≤ c ∧ c ≤ 102 then c - 87 else if 65 ≤ c ∧ c ≤ 70 then c - 55 else -1

/-- The reader's cells: the text, the place, what came, what is wrong. -/
def rd (s : List UInt8) (i : Int) (o : List UInt8) (e : Int) : List D := [.s s, .i .i64 i, .gs 200 1 o.length (bytesF o), .i .i64 e]
def rdl (s : List UInt8) (i : Int) (o : List UInt8) (e : Int) : Ow := [(20, .var (rd s i o e)), (200, .row 5 1 o.length)]

/-- What is wrong, once more. -/
def failF (e c : Int) : Int := if e = 0 then c else e

/-- The next byte, the place behind, what is wrong. -/
def nextF (s : List UInt8) (i e : Int) : Int × Int × Int := if e = 0 then (if i < s.length then (at' s i, i + 1, 0) else (0, i, 2)) else (0, i, e)

def mustF (s : List UInt8) (i e c : Int) : Int × Int := ((nextF s i e).2.1, if (nextF s i e).1 = c then (nextF s i e).2.2 else failF (nextF s i e).2.2 3)

/-- So many digits: their number, the place behind, what is wrong. -/
def fourG (s : List UInt8) : Nat → Int → Int → Int × Int × Int
  | 0, n, i => (n, i, 0)
  | k + 1, n, i => if i < s.length then (if hexF (at' s i) < 0 then (0, i + 1, 3) else fourG s k (16 * n + hexF (at' s i)) (i + 1)) else (0, i, 2)

def fourF (s : List UInt8) (i e : Int) : Int × Int × Int := if e = 0 then fourG s 4 0 i else (0, i, e)

end Go.Proofs.YteidmimpkipcfaaDoor.Flow

/- UTF: the program's reader: four digits, a code point. -/
namespace Go.Proofs.YteidmimpkipcfaaDoor.Flow
open Go

section
variable {s : List UInt8} {k : Nat} {n i : Int}
theorem fourG_more (h : i < s.length) (h2 : ¬ hexF (at' s i) < 0) : fourG s (k + 1) n i = fourG s k (16 * n + hexF (at' s i)) (i + 1) := by
  rw [fourG, if_pos h, if_neg h2]
theorem fourG_form (h : i < s.length) (h2 : hexF (at' s i) < 0) : fourG s (k + 1) n i = (0, i + 1, 3) := by
  rw [fourG, if_pos h, if_pos h2]
theorem fourG_short (h : ¬ i < s.length) : fourG s (k + 1) n i = (0, i, 2) := by
  rw [fourG, if_neg h]
end

end Go.Proofs.YteidmimpkipcfaaDoor.Flow

/- UTF: a code point's bytes are appended. -/
namespace Go.Proofs.YteidmimpkipcfaaDoor.Flow
open Go

/-- A code point's bytes. -/
def utfB (n : Int) : List UInt8 :=
  if n < 128 then [by8 n] else if n < 2048 then [by8 (192 + n / 64), by8 (128 + n % 64)]
  else if n < 65536 then [by8 (224 + n / 4096), by8 (128 + n / 64 % 64), by8 (128 + n % 64)]
  else [by8 (240 + n / 262144), by8 (128 + n / 4096 % 64), by8 (128 + n / 64 % 64), by8 (128 + n % 64)]

end Go.Proofs.YteidmimpkipcfaaDoor.Flow

/- UTF: the program's reader: a code point in one part or two, what is behind a backslash. -/
namespace Go.Proofs.YteidmimpkipcfaaDoor.Flow
open Go

/-- Two halves as one code point, as the program reckons it. -/
def pairW (n m : Int) : Int := IntKind.i32.wrap (IntKind.i32.wrap (IntKind.i32.wrap (65536 + IntKind.i32.wrap (IntKind.i32.wrap (n - 55296) * 2 ^ (10 : Int).toNat)) + m) - 56320)
def pairF (n m : Int) : Int := 65536 + 1024 * (n - 55296) + m - 56320
theorem pairW_eq (n m : Int) (h0 : 55296 ≤ n) (h1 : n ≤ 56319) (h2 : 0 ≤ m) (h3 : m < 65536) : pairW n m = pairF n m := by
  unfold pairW pairF
  have e : (2 : Int) ^ Int.toNat 10 = 1024 := by decide
  rw [e, wrap_i32 (n - 55296) (by omega) (by omega), wrap_i32 ((n - 55296) * 1024) (by omega) (by omega), wrap_i32 (65536 + (n - 55296) * 1024) (by omega) (by omega), wrap_i32 (65536 + (n - 55296) * 1024 + m) (by omega) (by omega), wrap_i32 _ (by omega) (by omega)]
  omega

/-- The second half, as the program reads it: its number, the place behind, what is wrong. -/
def lowP (s : List UInt8) (j : Int) : Int × Int × Int :=
  let a := mustF s j 0 92
  let b := mustF s a.1 a.2 117
  let y := fourF s b.1 b.2
  (y.1, y.2.1, if y.1 < 56320 ∨ 57343 < y.1 then failF y.2.2 3 else y.2.2)

/-- A code point: the place behind, what came, what is wrong. -/
def codeP (s : List UInt8) (i : Int) (o : List UInt8) : Int × List UInt8 × Int :=
  let x := fourG s 4 0 i
  if x.2.2 = 0 then
    if 56320 ≤ x.1 ∧ x.1 ≤ 57343 then (x.2.1, o, 3)
    else if 55296 ≤ x.1 ∧ x.1 ≤ 56319 then
      (if (lowP s x.2.1).2.2 = 0 then ((lowP s x.2.1).2.1, o ++ utfB (pairF x.1 (lowP s x.2.1).1), 0) else ((lowP s x.2.1).2.1, o, (lowP s x.2.1).2.2))
    else (x.2.1, o ++ utfB x.1, 0)
  else (x.2.1, o, x.2.2)

section
variable {s : List UInt8} {i j j1 j2 j3 n m e e1 e2 e3 : Int} {o : List UInt8}
theorem lowP_eq (h1 : mustF s j 0 92 = (j1, e1)) (h2 : mustF s j1 e1 117 = (j2, e2)) (h3 : fourF s j2 e2 = (m, j3, e3)) : lowP s j = (m, j3, if m < 56320 ∨ 57343 < m then failF e3 3 else e3) := by
  simp only [lowP, h1, h2, h3]
theorem codeP_bad (h : fourG s 4 0 i = (n, j, e)) (h2 : ¬ e = 0) : codeP s i o = (j, o, e) := by
  simp only [codeP, h]
  rw [if_neg h2]
theorem codeP_low (h : fourG s 4 0 i = (n, j, 0)) (h2 : 56320 ≤ n) (h3 : n ≤ 57343) : codeP s i o = (j, o, 3) := by
  simp only [codeP, h]
  rw [if_pos trivial, if_pos ⟨h2, h3⟩]
theorem codeP_one (h : fourG s 4 0 i = (n, j, 0)) (h2 : n < 55296 ∨ 57343 < n) : codeP s i o = (j, o ++ utfB n, 0) := by
  simp only [codeP, h]
  rw [if_pos trivial, if_neg (by omega), if_neg (by omega)]
theorem codeP_pair (h : fourG s 4 0 i = (n, j, 0)) (h2 : 55296 ≤ n) (h3 : n ≤ 56319) (h4 : lowP s j = (m, j3, 0)) : codeP s i o = (j3, o ++ utfB (pairF n m), 0) := by
  simp only [codeP, h]
  rw [if_pos trivial, if_neg (by omega), if_pos ⟨h2, h3⟩, h4]
  rfl
theorem codeP_half (h : fourG s 4 0 i = (n, j, 0)) (h2 : 55296 ≤ n) (h3 : n ≤ 56319) (h4 : lowP s j = (m, j3, e)) (h5 : ¬ e = 0) : codeP s i o = (j3, o, e) := by
  simp only [codeP, h]
  rw [if_pos trivial, if_neg (by omega), if_pos ⟨h2, h3⟩, h4]
  dsimp only
  rw [if_neg h5]
end

end Go.Proofs.YteidmimpkipcfaaDoor.Flow

/- UTF: which bytes are UTF-8; eight bytes at once. -/
namespace Go.Proofs.YteidmimpkipcfaaDoor.Flow
open Go

/-- Is the byte at a place from lo to hi? -/
def tlB (l : List UInt8) (k : Int) (lo hi : Int) : Bool := decide (k < l.length) && decide (lo ≤ at' l k) && decide (at' l k ≤ hi)
def loF (c : Int) : Int := if c = 224 then 160 else if c = 240 then 144 else 128
def hiF (c : Int) : Int := if c = 237 then 159 else if c = 244 then 143 else 191

/-- How many bytes the code point at the head has; 0: there is none. -/
def oneL (l : List UInt8) : Nat :=
  if at' l 0 < 128 then 1
  else if tlB l 1 (loF (at' l 0)) (hiF (at' l 0)) = false then 0
  else if 194 ≤ at' l 0 ∧ at' l 0 ≤ 223 then 2
  else if 224 ≤ at' l 0 ∧ at' l 0 ≤ 239 ∧ tlB l 2 128 191 = true then 3
  else if 240 ≤ at' l 0 ∧ at' l 0 ≤ 244 ∧ tlB l 2 128 191 = true ∧ tlB l 3 128 191 = true then 4
  else 0

def validN : Nat → List UInt8 → Bool
  | 0, _ => true
  | n + 1, l => if l.length = 0 then true else if oneL l = 0 then false else validN n (l.drop (oneL l))

def validL (l : List UInt8) : Bool := validN l.length l

theorem validN_ge : ∀ (n m : Nat) (l : List UInt8), l.length ≤ n → l.length ≤ m → validN n l = validN m l
  | 0, m, l, h, _ => by
    have : l.length = 0 := by omega
    cases m with
    | zero => rfl
    | succ m => simp [validN, this]
  | n + 1, 0, l, _, h => by
    have : l.length = 0 := by omega
    simp [validN, this]
  | n + 1, m + 1, l, h1, h2 => by
    unfold validN
    by_cases h0 : l.length = 0
    · simp [h0]
    · rw [if_neg h0, if_neg h0]
      by_cases ho : oneL l = 0
      · rw [if_pos ho, if_pos ho]
      · rw [if_neg ho, if_neg ho]
        exact validN_ge n m _ (by rw [List.length_drop]; omega) (by rw [List.length_drop]; omega)

theorem validL_nil {l : List UInt8} (h : l.length = 0) : validL l = true := by
  unfold validL
  rw [h]
  rfl
theorem validL_bad {l : List UInt8} (h : ¬ l.length = 0) (ho : oneL l = 0) : validL l = false := by
  unfold validL
  obtain ⟨n, hn⟩ : ∃ n, l.length = n + 1 := ⟨l.length - 1, by omega⟩
  rw [hn]
  unfold validN
  rw [if_neg h, if_pos ho]
theorem validL_step {l : List UInt8} (h : ¬ l.length = 0) (ho : ¬ oneL l = 0) : validL l = validL (l.drop (oneL l)) := by
  unfold validL
  obtain ⟨n, hn⟩ : ∃ n, l.length = n + 1 := ⟨l.length - 1, by omega⟩
  rw [hn]
  conv => lhs; unfold validN
  rw [if_neg h, if_neg ho]
  exact validN_ge _ _ _ (by rw [List.length_drop]; omega) (Nat.le_refl _)

theorem at_drop (l : List UInt8) (k j : Nat) : at' (l.drop k) j = at' l ((k + j : Nat) : Int) := by
  unfold at'
  simp only [Int.toNat_natCast]
  simp [List.getD_eq_getElem?_getD, List.getElem?_drop]

theorem valid_ascii : ∀ (k : Nat) (l : List UInt8), k ≤ l.length → (∀ j : Nat, j < k → at' l j < 128) → validL (l.drop k) = validL l
  | 0, l, _, _ => by simp
  | k + 1, l, h, ha => by
    have h0 := ha 0 (by omega)
    have ho : oneL l = 1 := by unfold oneL; rw [if_pos (by simpa using h0)]
    rw [validL_step (l := l) (by omega) (by omega), ho, ← valid_ascii k (l.drop 1) (by rw [List.length_drop]; omega) (fun j hj => by rw [at_drop]; exact ha (1 + j) (by omega)), List.drop_drop, Nat.add_comm 1 k]

/-! ### Eight bytes at once -/
def wordV (l : List UInt8) : Int := at' l 0 + 256 * at' l 1 + 65536 * at' l 2 + 16777216 * at' l 3 + 4294967296 * at' l 4 + 1099511627776 * at' l 5 + 281474976710656 * at' l 6 + 72057594037927936 * at' l 7

theorem wraps_u64U (n : Int) (h₀ : 0 ≤ n) (h₁ : n < 2 ^ 64) : IntKind.u64.wrap n = n := by rw [wrap_u64']; omega
theorem bits_or_commU (k : IntKind) (x y : Int) : bits .or k x y = bits .or k y x := by simp [bits, BitVec.or_comm]

theorem or_up (i : Nat) (x y p : Int) (hx : 0 ≤ x) (hx2 : x < 2 ^ i) (hy : 0 ≤ y) (hy2 : y < 256) (hi : i + 8 ≤ 64) (hp : p = 2 ^ i) (hp2 : y * p < 18446744073709551616) (hx3 : x < 18446744073709551616) (hp0 : 0 ≤ y * p) : bits .or .u64 x (IntKind.u64.wrap (IntKind.u64.wrap y * p)) = x + y * p := by
  rw [wraps_u64U y hy (by omega), wraps_u64U _ hp0 hp2, bits_or_commU, bits_join .u64 64 (by decide) wraps_u64U i _ _ hp0 (by rw [hp, Int.mul_emod_left]) hp2 hx hx2 hx3]
  omega

theorem word_ctr (l : List UInt8) (h : 8 ≤ l.length) : Ctr Tryd.prog 127 [.s l] (.i .u64 (wordV l)) := by
  have r0 := at_range l 0
  have r1 := at_range l 1
  have r2 := at_range l 2
  have r3 := at_range l 3
  have r4 := at_range l 4
  have r5 := at_range l 5
  have r6 := at_range l 6
  have r7 := at_range l 7
  refine r_fun Tryd.func127 rfl Tryd.ntmps127 Tryd.results127 rfl rfl fun X hL hX => ?_
  repeat' (first
    | with_reducible refine t_seq ?_ | with_reducible refine t_region ?_ | with_reducible refine c_nil ?_ | with_reducible refine n_then ?_
    | with_reducible refine t_ret ?_ | with_reducible refine t_skip ?_ | with_reducible refine t_exit ?_ | with_reducible refine t_block ?_
    | with_reducible refine n_block ?_ | with_reducible refine e_then ?_ | with_reducible refine x_then ?_ | with_reducible refine x_block ?_ | with_reducible refine t_draw ?_
    | refine r_val rfl rfl True.intro ?_ | refine r_gskip rfl rfl rfl ?_ | refine r_gskip2 rfl rfl rfl ?_ | refine r_gval rfl rfl rfl rfl True.intro ?_
    | refine t_true rfl ?_ | refine t_false rfl ?_
    | ((first | refine t_cond_d rfl (fun _ => ?_) (fun _ => ?_) | refine t_cond_i rfl (fun _ => ?_) (fun _ => ?_) | refine t_cond_j rfl (fun _ => ?_) (fun _ => ?_) | refine t_cond_s rfl (fun _ => ?_) (fun _ => ?_) | refine t_cond_n rfl (fun _ => ?_) (fun _ => ?_) | refine t_cond rfl (fun _ => ?_) (fun _ => ?_) | refine c_split_d rfl rfl (fun _ => ?_) (fun _ => ?_) | refine c_split_i rfl rfl (fun _ => ?_) (fun _ => ?_) | refine c_split_j rfl rfl (fun _ => ?_) (fun _ => ?_) | refine c_split_s rfl rfl (fun _ => ?_) (fun _ => ?_) | refine c_split_n rfl rfl (fun _ => ?_) (fun _ => ?_)) <;> try (first | (rename_i hz; exact Bool.noConfusion (show true = false from hz)) | (rename_i hz; exact Bool.noConfusion (show false = true from hz)) | (exfalso; omega)))
    | refine r_val rfl rfl (by (first | omega | exact Nat.le_of_ble_eq_true rfl | (simp only [wrap_u8, IntKind.wrap_i64, IntKind.wrap_i32, wrap_u32', wrap_u64', InI]; (repeat' refine And.intro ?_ ?_) <;> omega) | ((repeat' refine And.intro ?_ ?_) <;> first | omega | rfl | exact Nat.le_refl _ | exact Nat.le_of_ble_eq_true rfl | exact bytesF_one _) | (simp_all; done) | (simp_all; omega))) ?_ | refine r_gval rfl rfl rfl rfl (by (first | omega | exact Nat.le_of_ble_eq_true rfl | (simp only [wrap_u8, IntKind.wrap_i64, IntKind.wrap_i32, wrap_u32', wrap_u64', InI]; (repeat' refine And.intro ?_ ?_) <;> omega) | ((repeat' refine And.intro ?_ ?_) <;> first | omega | rfl | exact Nat.le_refl _ | exact Nat.le_of_ble_eq_true rfl | exact bytesF_one _) | (simp_all; done) | (simp_all; omega))) ?_
    | refine r_obj rfl rfl (by (first | omega | exact Nat.le_of_ble_eq_true rfl | (simp only [wrap_u8, IntKind.wrap_i64, IntKind.wrap_i32, wrap_u32', wrap_u64', InI]; (repeat' refine And.intro ?_ ?_) <;> omega) | ((repeat' refine And.intro ?_ ?_) <;> first | omega | rfl | exact Nat.le_refl _ | exact Nat.le_of_ble_eq_true rfl | exact bytesF_one _) | (simp_all; done) | (simp_all; omega))) ?_ | refine r_sto rfl (by (first | omega | exact Nat.le_of_ble_eq_true rfl | (simp only [wrap_u8, IntKind.wrap_i64, IntKind.wrap_i32, wrap_u32', wrap_u64', InI]; (repeat' refine And.intro ?_ ?_) <;> omega) | ((repeat' refine And.intro ?_ ?_) <;> first | omega | rfl | exact Nat.le_refl _ | exact Nat.le_of_ble_eq_true rfl | exact bytesF_one _) | (simp_all; done) | (simp_all; omega))) ?_ | refine r_gobj rfl rfl rfl rfl (by (first | omega | exact Nat.le_of_ble_eq_true rfl | (simp only [wrap_u8, IntKind.wrap_i64, IntKind.wrap_i32, wrap_u32', wrap_u64', InI]; (repeat' refine And.intro ?_ ?_) <;> omega) | ((repeat' refine And.intro ?_ ?_) <;> first | omega | rfl | exact Nat.le_refl _ | exact Nat.le_of_ble_eq_true rfl | exact bytesF_one _) | (simp_all; done) | (simp_all; omega))) ?_
    | refine e_hit rfl ?_ | refine e_miss rfl ?_
    | refine ⟨by kernel_rfl, ?_⟩ | refine x_end rfl ?_ | ((with_reducible refine c_grd ?_); (fail_if_success (refine c_lit true rfl rfl rfl ?_)); (fail_if_success (refine c_lit false rfl rfl rfl ?_)); refine c_split rfl rfl (fun _ => ?_) (fun _ => ?_)))
  unfold wordV
  generalize at' l 0 = b0 at *
  generalize at' l 1 = b1 at *
  generalize at' l 2 = b2 at *
  generalize at' l 3 = b3 at *
  generalize at' l 4 = b4 at *
  generalize at' l 5 = b5 at *
  generalize at' l 6 = b6 at *
  generalize at' l 7 = b7 at *
  have p8 : (2 : Int) ^ Int.toNat 8 = 256 := by decide
  have p16 : (2 : Int) ^ Int.toNat 16 = 65536 := by decide
  have p24 : (2 : Int) ^ Int.toNat 24 = 16777216 := by decide
  have p32 : (2 : Int) ^ Int.toNat 32 = 4294967296 := by decide
  have p40 : (2 : Int) ^ Int.toNat 40 = 1099511627776 := by decide
  have p48 : (2 : Int) ^ Int.toNat 48 = 281474976710656 := by decide
  have p56 : (2 : Int) ^ Int.toNat 56 = 72057594037927936 := by decide
  rw [p8, p16, p24, p32, p40, p48, p56, wraps_u64U b0 r0.1 (by omega)]
  rw [or_up 8 b0 b1 256 (by omega) (by omega) r1.1 r1.2 (by omega) (by decide) (by omega) (by omega) (by omega)]
  rw [or_up 16 _ b2 65536 (by omega) (by omega) r2.1 r2.2 (by omega) (by decide) (by omega) (by omega) (by omega)]
  rw [or_up 24 _ b3 16777216 (by omega) (by omega) r3.1 r3.2 (by omega) (by decide) (by omega) (by omega) (by omega)]
  rw [or_up 32 _ b4 4294967296 (by omega) (by omega) r4.1 r4.2 (by omega) (by decide) (by omega) (by omega) (by omega)]
  rw [or_up 40 _ b5 1099511627776 (by omega) (by omega) r5.1 r5.2 (by omega) (by decide) (by omega) (by omega) (by omega)]
  rw [or_up 48 _ b6 281474976710656 (by omega) (by omega) r6.1 r6.2 (by omega) (by decide) (by omega) (by omega) (by omega)]
  rw [or_up 56 _ b7 72057594037927936 (by omega) (by omega) r7.1 r7.2 (by omega) (by decide) (by omega) (by omega) (by omega)]
  exact congrArg (D.i .u64) (by omega)

/-- A word's high bits. -/
theorem hi_bits (w : Nat) (h : bits .and .u64 (w : Int) 9259542123273814144 = 0) (hw : w < 18446744073709551616) : w / 128 % 2 = 0 ∧ w / 32768 % 2 = 0 ∧ w / 8388608 % 2 = 0 ∧ w / 2147483648 % 2 = 0 ∧ w / 549755813888 % 2 = 0 ∧ w / 140737488355328 % 2 = 0 ∧ w / 36028797018963968 % 2 = 0 ∧ w / 9223372036854775808 % 2 = 0 := by
  have h1 := (bits_nat .u64 64 (by decide) wraps_u64U w 9259542123273814144 hw (by decide)).1
  have h2 : w &&& 9259542123273814144 = 0 := by
    have : ((9259542123273814144 : Nat) : Int) = 9259542123273814144 := rfl
    rw [this, h] at h1
    omega
  have key : ∀ i, (9259542123273814144 : Nat).testBit i = true → w / 2 ^ i % 2 = 0 := fun i hi => by
    have h3 : (w &&& 9259542123273814144).testBit i = false := by rw [h2]; exact Nat.zero_testBit i
    rw [Nat.testBit_and, hi, Bool.and_true, Nat.testBit_eq_decide_div_mod_eq] at h3
    have := of_decide_eq_false h3
    omega
  exact ⟨key 7 (by decide), key 15 (by decide), key 23 (by decide), key 31 (by decide), key 39 (by decide), key 47 (by decide), key 55 (by decide), key 63 (by decide)⟩

theorem wordV_range (l : List UInt8) : 0 ≤ wordV l ∧ wordV l < 18446744073709551616 := by
  have r0 := at_range l 0
  have r1 := at_range l 1
  have r2 := at_range l 2
  have r3 := at_range l 3
  have r4 := at_range l 4
  have r5 := at_range l 5
  have r6 := at_range l 6
  have r7 := at_range l 7
  unfold wordV
  omega

theorem word_ascii (l : List UInt8) (h : bits .and .u64 (wordV l) 9259542123273814144 = 0) : ∀ j : Nat, j < 8 → at' l j < 128 := by
  have hr := wordV_range l
  obtain ⟨w, hw⟩ : ∃ w : Nat, wordV l = w := ⟨(wordV l).toNat, by omega⟩
  rw [hw] at h
  obtain ⟨k0, k1, k2, k3, k4, k5, k6, k7⟩ := hi_bits w h (by omega)
  have r0 := at_range l 0
  have r1 := at_range l 1
  have r2 := at_range l 2
  have r3 := at_range l 3
  have r4 := at_range l 4
  have r5 := at_range l 5
  have r6 := at_range l 6
  have r7 := at_range l 7
  unfold wordV at hw
  intro j hj
  have hj : j = 0 ∨ j = 1 ∨ j = 2 ∨ j = 3 ∨ j = 4 ∨ j = 5 ∨ j = 6 ∨ j = 7 := by omega
  rcases hj with rfl | rfl | rfl | rfl | rfl | rfl | rfl | rfl
  · show at' l 0 < 128; clear k1 k2 k3 k4 k5 k6 k7; omega
  · show at' l 1 < 128; clear k0 k2 k3 k4 k5 k6 k7; omega
  · show at' l 2 < 128; clear k1 k0 k3 k4 k5 k6 k7; omega
  · show at' l 3 < 128; clear k1 k2 k0 k4 k5 k6 k7; omega
  · show at' l 4 < 128; clear k1 k2 k3 k0 k5 k6 k7; omega
  · show at' l 5 < 128; clear k1 k2 k3 k4 k0 k6 k7; omega
  · show at' l 6 < 128; clear k1 k2 k3 k4 k5 k0 k7; omega
  · show at' l 7 < 128; clear k1 k2 k3 k4 k5 k6 k0; omega

theorem and_or (a b : Int) (ha : 0 ≤ a) (ha2 : a < 18446744073709551616) (hb : 0 ≤ b) (hb2 : b < 18446744073709551616) (h : bits .and .u64 (bits .or .u64 a b) 9259542123273814144 = 0) : bits .and .u64 a 9259542123273814144 = 0 ∧ bits .and .u64 b 9259542123273814144 = 0 := by
  obtain ⟨x, rfl⟩ := Int.eq_ofNat_of_zero_le ha
  obtain ⟨y, rfl⟩ := Int.eq_ofNat_of_zero_le hb
  have hx : x < 2 ^ 64 := by omega
  have hy : y < 2 ^ 64 := by omega
  have hM : (9259542123273814144 : Nat) < 2 ^ 64 := by decide
  have c : ((9259542123273814144 : Nat) : Int) = 9259542123273814144 := rfl
  rw [(bits_nat .u64 64 (by decide) wraps_u64U x y hx hy).2, ← c, (bits_nat .u64 64 (by decide) wraps_u64U (x ||| y) 9259542123273814144 (Nat.or_lt_two_pow hx hy) hM).1, Nat.and_or_distrib_right] at h
  rw [← c, (bits_nat .u64 64 (by decide) wraps_u64U x 9259542123273814144 hx hM).1, (bits_nat .u64 64 (by decide) wraps_u64U y 9259542123273814144 hy hM).1]
  have h2 : x &&& 9259542123273814144 ||| y &&& 9259542123273814144 = 0 := by omega
  rw [Nat.or_eq_zero_iff] at h2
  rw [h2.1, h2.2]
  exact ⟨rfl, rfl⟩

theorem or_range (a b : Int) (ha : 0 ≤ a) (ha2 : a < 18446744073709551616) (hb : 0 ≤ b) (hb2 : b < 18446744073709551616) : 0 ≤ bits .or .u64 a b ∧ bits .or .u64 a b < 18446744073709551616 := by
  obtain ⟨x, rfl⟩ := Int.eq_ofNat_of_zero_le ha
  obtain ⟨y, rfl⟩ := Int.eq_ofNat_of_zero_le hb
  have hx : x < 2 ^ 64 := by omega
  have hy : y < 2 ^ 64 := by omega
  rw [(bits_nat .u64 64 (by decide) wraps_u64U x y hx hy).2]
  have := Nat.or_lt_two_pow hx hy
  omega

end Go.Proofs.YteidmimpkipcfaaDoor.Flow

/- TYPED: a whole number's own text is read as that number, in plain words. -/
namespace Go.Proofs.YteidmimpkipcfaaDoor.Flow
open Go

section
variable {x ds : List UInt8} {i : Nat}
theorem takeWhile_whole {p : UInt8 → Bool} : ∀ {ds : List UInt8}, (∀ c ∈ ds, p c = true) → ds.takeWhile p = ds
  | [], _ => rfl
  | c :: ds, h => by rw [List.takeWhile_cons, if_pos (h c (by simp)), takeWhile_whole fun c hc => h c (by simp [hc])]

theorem dgT_end (h : x.drop i = ds) (hd : ∀ c ∈ ds, isD c = true) : dgT x i = ds := by
  unfold dgT
  rw [h]
  exact takeWhile_whole hd

theorem frN_end (h : x.length ≤ i) : frN x i = ([], i) := frN_neg (.inl fun h2 => by have := h2.1; omega)
theorem exN_end {pw : List UInt8 → Int} (h : x.length ≤ i) : exN pw x i = (0, i) := exN_neg (.inl fun h2 => by
  rcases h2 with h2 | h2
  · have := h2.1
    omega
  · have := h2.1
    omega)
end

theorem norm_num2 {n e : Int} (h : ¬ n = 0) (hn : n.natAbs < 10 ^ 19) (h0 : -900 ≤ e) (h1 : e ≤ 900) : (normF (decide (n < 0)) (Lib.decDigits n.natAbs) e).2 = 0 := by
  have hl := dec_len n.natAbs 19 hn (by omega)
  obtain ⟨c, l, hc, hc2⟩ := dec_first n.natAbs (by omega)
  have hlen := tR_len (Lib.decDigits n.natAbs)
  have hf := tR_first (l := l) hc2
  rw [← hc] at hf
  unfold normF
  generalize Lib.decDigits n.natAbs = D at *
  obtain ⟨m, hm⟩ := hf
  rw [hm] at hlen ⊢
  simp only [List.length_cons] at hlen
  rw [tL_ne hc2]
  simp only [List.length_cons]
  rw [if_neg (by omega), if_neg (by omega), if_neg (by omega)]

theorem ofF_norm (n : Int) (hn : n.natAbs < 10 ^ 19) : normF (decide (n < 0)) (Lib.decDigits n.natAbs) 0 = (ofF n 0, 0) := by
  by_cases h : n = 0
  · subst h
    show normF false (Lib.decDigits 0) 0 = _
    rw [ofF_zero, show Lib.decDigits 0 = [48] from dec_small (by omega), norm_zero]
  · refine Prod.ext ?_ (norm_num2 h hn (by omega) (by omega))
    unfold ofF
    rw [if_neg (by omega)]

theorem itoa_sg (n : Int) : Lib.itoa n = sgL (decide (n < 0)) ++ Lib.decDigits n.natAbs := by
  obtain ⟨h1, h2⟩ := itoa_abs n
  by_cases h : n < 0
  · rw [h1 h, decide_eq_true h]
    rfl
  · rw [h2 h, decide_eq_false h]
    rfl

theorem dec_len1 (k : Nat) : 1 ≤ (Lib.decDigits k).length := by
  by_cases h : k = 0
  · subst h
    rw [dec_small (by omega)]
    simp
  · obtain ⟨c, l, h1, _⟩ := dec_first k h
    rw [h1]
    simp

theorem parse_itoa (n : Int) (hn : n.natAbs < 10 ^ 19) : parseG powP (Lib.itoa n) = (ofF n 0, (Lib.itoa n).length, 0) := by
  have hno := ofF_norm n hn
  have hd := dec_isD n.natAbs
  rw [itoa_sg]
  by_cases h0 : n = 0
  · subst h0
    have hno : normF false [48] 0 = (ofF 0 0, 0) := by rw [norm_zero, ofF_zero]
    show parseG powP ([] ++ Lib.decDigits 0) = _
    rw [show sgL (decide ((0 : Int) < 0)) ++ Lib.decDigits (0 : Int).natAbs = [48] from by show [] ++ Lib.decDigits 0 = _; rw [dec_small (by omega)]; rfl, show ([] : List UInt8) ++ Lib.decDigits 0 = [48] from by rw [dec_small (by omega)]; rfl]
    have d0 : ([48] : List UInt8).drop 0 = 48 :: [] := rfl
    exact parse_of (neg := false) (by unfold sg0; rw [if_neg (by rw [sat_of d0]; decide)]) (decide_eq_false (by rw [sat_of d0]; decide)) (whN_zero d0) (by simp) (frN_end (by decide)) (exN_end (by decide)) hno
  · obtain ⟨c, l, hc, hc2⟩ := dec_first n.natAbs (by omega)
    rw [hc] at hd hno ⊢
    obtain ⟨g1, g2, g3⟩ := sg_of (decide (n < 0)) (c := c) (r := l) (hd c (by simp))
    have hlen : (sgL (decide (n < 0)) ++ c :: l).length = (sgL (decide (n < 0))).length + (c :: l).length := by rw [List.length_append]
    rw [hlen]
    generalize sgL (decide (n < 0)) ++ c :: l = x at *
    have hw : whN x (sgL (decide (n < 0))).length = (c :: l, (sgL (decide (n < 0))).length + (c :: l).length) := by
      rw [whN_neg, dgT_end g3 hd]
      rw [sat_of g3]
      exact fun h => hc2 ((u8_eq (n := 48) (by omega)).1 h)
    refine parse_of g1 g2 hw (by simp) (frN_end (by omega)) (exN_end (by omega)) ?_
    simpa using hno

theorem itoa_mem (n : Int) : ∀ c ∈ Lib.itoa n, c = 45 ∨ isD c = true := fun c hc => by
  rw [itoa_sg] at hc
  rcases List.mem_append.1 hc with hc | hc
  · refine .inl ?_
    unfold sgL at hc
    split at hc
    · exact List.mem_singleton.1 hc
    · cases hc
  · exact .inr (dec_isD _ c hc)

theorem itoa_dotE (n : Int) : dotE (Lib.itoa n) = false := by
  unfold dotE
  rw [List.any_eq_false]
  intro c hc
  rcases itoa_mem n c hc with rfl | h
  · decide
  · have := isD_nat h
    have e1 : ¬ c = 46 := fun h => by rw [h] at this; have : (46 : UInt8).toNat = 46 := rfl; omega
    have e2 : ¬ c = 101 := fun h => by rw [h] at this; have : (101 : UInt8).toNat = 101 := rfl; omega
    have e3 : ¬ c = 69 := fun h => by rw [h] at this; have : (69 : UInt8).toNat = 69 := rfl; omega
    simp [e1, e2, e3]

theorem ascii_valid {s : List UInt8} (h : ∀ c ∈ s, c.toNat < 128) : validL s = true := by
  rw [← valid_ascii s.length s (Nat.le_refl _) (fun j hj => ?_)]
  · exact validL_nil (by simp)
  · unfold at'
    simp only [Int.toNat_natCast, List.getD_eq_getElem?_getD, List.getElem?_eq_getElem hj, Option.getD_some]
    have := h _ (List.getElem_mem hj)
    omega

theorem itoa_valid (n : Int) : validL (Lib.itoa n) = true := ascii_valid fun c hc => by
  rcases itoa_mem n c hc with rfl | h
  · decide
  · have := isD_nat h
    omega

end Go.Proofs.YteidmimpkipcfaaDoor.Flow

/- DEC: both texts, of any decimal. -/
namespace Go.Proofs.YteidmimpkipcfaaDoor.Flow
open Go

theorem text_zero : Ctr Tryd.prog 40 [dcD false [] 0] (.s [48]) := by
  have c1 := right_ctr false [] 0 (by decide)
  have hr : rightB false [] 0 = true := by decide
  rw [hr] at c1
  refine r_fun Tryd.func40 rfl Tryd.ntmps40 Tryd.results40 rfl rfl fun X hL hX => ?_
  repeat' (first
    | with_reducible refine t_seq ?_ | with_reducible refine t_region ?_ | with_reducible refine c_nil ?_ | with_reducible refine n_then ?_
    | with_reducible refine t_ret ?_ | with_reducible refine t_skip ?_ | with_reducible refine t_exit ?_ | with_reducible refine t_block ?_
    | with_reducible refine n_block ?_ | with_reducible refine e_then ?_ | with_reducible refine x_then ?_ | with_reducible refine x_block ?_ | with_reducible refine t_draw ?_
    | refine r_val rfl rfl True.intro ?_ | refine r_gskip rfl rfl rfl ?_ | refine r_gskip2 rfl rfl rfl ?_ | refine r_gval rfl rfl rfl rfl True.intro ?_
    | refine t_true rfl ?_ | refine t_false rfl ?_
    | ((first | refine t_cond_d rfl (fun _ => ?_) (fun _ => ?_) | refine t_cond_i rfl (fun _ => ?_) (fun _ => ?_) | refine t_cond_j rfl (fun _ => ?_) (fun _ => ?_) | refine t_cond_s rfl (fun _ => ?_) (fun _ => ?_) | refine t_cond_n rfl (fun _ => ?_) (fun _ => ?_) | refine t_cond rfl (fun _ => ?_) (fun _ => ?_) | refine c_split_d rfl rfl (fun _ => ?_) (fun _ => ?_) | refine c_split_i rfl rfl (fun _ => ?_) (fun _ => ?_) | refine c_split_j rfl rfl (fun _ => ?_) (fun _ => ?_) | refine c_split_s rfl rfl (fun _ => ?_) (fun _ => ?_) | refine c_split_n rfl rfl (fun _ => ?_) (fun _ => ?_)) <;> try (first | (rename_i hz; exact Bool.noConfusion (show true = false from hz)) | (rename_i hz; exact Bool.noConfusion (show false = true from hz)) | (exfalso; omega)))
    | refine r_val rfl rfl (by (first | omega | exact Nat.le_of_ble_eq_true rfl | (simp only [wrap_u8, IntKind.wrap_i64, IntKind.wrap_i32, wrap_u32', wrap_u64', InI]; (repeat' refine And.intro ?_ ?_) <;> omega) | ((repeat' refine And.intro ?_ ?_) <;> first | omega | rfl | exact Nat.le_refl _ | exact Nat.le_of_ble_eq_true rfl | exact bytesF_one _) | (simp_all; done) | (simp_all; omega))) ?_ | refine r_gval rfl rfl rfl rfl (by (first | omega | exact Nat.le_of_ble_eq_true rfl | (simp only [wrap_u8, IntKind.wrap_i64, IntKind.wrap_i32, wrap_u32', wrap_u64', InI]; (repeat' refine And.intro ?_ ?_) <;> omega) | ((repeat' refine And.intro ?_ ?_) <;> first | omega | rfl | exact Nat.le_refl _ | exact Nat.le_of_ble_eq_true rfl | exact bytesF_one _) | (simp_all; done) | (simp_all; omega))) ?_
    | refine r_obj rfl rfl (by (first | omega | exact Nat.le_of_ble_eq_true rfl | (simp only [wrap_u8, IntKind.wrap_i64, IntKind.wrap_i32, wrap_u32', wrap_u64', InI]; (repeat' refine And.intro ?_ ?_) <;> omega) | ((repeat' refine And.intro ?_ ?_) <;> first | omega | rfl | exact Nat.le_refl _ | exact Nat.le_of_ble_eq_true rfl | exact bytesF_one _) | (simp_all; done) | (simp_all; omega))) ?_ | refine r_sto rfl (by (first | omega | exact Nat.le_of_ble_eq_true rfl | (simp only [wrap_u8, IntKind.wrap_i64, IntKind.wrap_i32, wrap_u32', wrap_u64', InI]; (repeat' refine And.intro ?_ ?_) <;> omega) | ((repeat' refine And.intro ?_ ?_) <;> first | omega | rfl | exact Nat.le_refl _ | exact Nat.le_of_ble_eq_true rfl | exact bytesF_one _) | (simp_all; done) | (simp_all; omega))) ?_ | refine r_gobj rfl rfl rfl rfl (by (first | omega | exact Nat.le_of_ble_eq_true rfl | (simp only [wrap_u8, IntKind.wrap_i64, IntKind.wrap_i32, wrap_u32', wrap_u64', InI]; (repeat' refine And.intro ?_ ?_) <;> omega) | ((repeat' refine And.intro ?_ ?_) <;> first | omega | rfl | exact Nat.le_refl _ | exact Nat.le_of_ble_eq_true rfl | exact bytesF_one _) | (simp_all; done) | (simp_all; omega))) ?_
    | refine e_hit rfl ?_ | refine e_miss rfl ?_
    | refine ⟨by kernel_rfl, ?_⟩ | refine x_end rfl ?_ | refine r_call (f := 46) rfl rfl Tryd.call46 rfl c1 ?_ | ((with_reducible refine c_grd ?_); (fail_if_success (refine c_lit true rfl rfl rfl ?_)); (fail_if_success (refine c_lit false rfl rfl rfl ?_)); refine c_split rfl rfl (fun _ => ?_) (fun _ => ?_)))
  all_goals rfl

theorem text_ctr (neg : Bool) (s : List UInt8) (e : Int) (hs : s.length ≤ 1048576) : Ctr Tryd.prog 40 [dcD neg s e] (.s (textF neg s e)) := by
  by_cases h : RightP neg s e
  · by_cases h0 : s.length = 0
    · obtain ⟨rfl, rfl⟩ := (right_nil h0).1 h
      obtain rfl := len_nil h0
      exact text_zero
    · have := text_ok neg s e h h0
      unfold textF
      rw [if_neg (fun h2 => h2 h), if_neg h0]
      exact this
  · have := text_bad neg s e hs h
    unfold textF
    rw [if_pos h]
    exact this

end Go.Proofs.YteidmimpkipcfaaDoor.Flow

/- WHOLE: whole numbers among the bits, by both; their texts. -/
namespace Go.Proofs.YteidmimpkipcfaaDoor.Flow
open Go

theorem shr_lt (m k : Nat) : (9007199254740992 : Int) / 2 ^ k < (m : Int) ↔ 9007199254740992 < m * 2 ^ k := by
  have h1 : (2 : Int) ^ k = ((2 ^ k : Nat) : Int) := by simp
  rw [h1]
  have h2 : (9007199254740992 : Int) / ((2 ^ k : Nat) : Int) = ((9007199254740992 / 2 ^ k : Nat) : Int) := by simp
  rw [h2]
  have := Nat.div_lt_iff_lt_mul (x := 9007199254740992) (y := m) (Nat.two_pow_pos k)
  omega

theorem big_pow {m k : Nat} (hm : 0 < m) (hk : 53 < k) : 9007199254740992 < m * 2 ^ k := by
  have h1 : 2 ^ 54 ≤ 2 ^ k := Nat.pow_le_pow_right (by decide) hk
  have h2 : 1 * 2 ^ k ≤ m * 2 ^ k := Nat.mul_le_mul_right _ hm
  omega

theorem whF_zero (e : Int) : whF (0, e) = some 0 := rfl
theorem whF_low {m : Nat} {e : Int} (h : m ≠ 0) (he : e < 0) : whF (m, e) = none := by
  unfold whF
  rw [if_neg h, if_pos he]
theorem whF_big {m : Nat} {e : Int} (h : m ≠ 0) (he : ¬ e < 0) (hb : 9007199254740992 < m * 2 ^ e.toNat) : whF (m, e) = none := by
  unfold whF
  rw [if_neg h, if_neg he, if_pos hb]
theorem whF_ok {m : Nat} {e : Int} (h : m ≠ 0) (he : ¬ e < 0) (hb : ¬ 9007199254740992 < m * 2 ^ e.toNat) : whF (m, e) = some (m * 2 ^ e.toNat) := by
  unfold whF
  rw [if_neg h, if_neg he, if_neg hb]

theorem wholeF_inf {b : Nat} (h : xP b = 2047) : wholeF b = none := by unfold wholeF; rw [if_pos h]
theorem wholeF_fin {b : Nat} (h : ¬ xP b = 2047) : wholeF b = (whF (hv (mB (b % 9223372036854775808)) (eB (b % 9223372036854775808)))).map fun n => if 9223372036854775808 ≤ b then -(n : Int) else n := by
  unfold wholeF
  rw [if_neg h]
  split
  · rename_i h2
    rw [h2]
    rfl
  · rename_i n h2
    rw [h2]
    rfl

theorem wText_zero : wText (some 0) = ([48], true) := by
  show (textF (ofF 0 0).1 (ofF 0 0).2.1 (ofF 0 0).2.2, true) = _
  rw [ofF_zero]
  rfl

set_option maxHeartbeats 2000000 in
theorem ftext_ctr (b : Nat) (hb : b < 18446744073709551616) : Ctr Tryd.prog 8 [.i .u64 b] (.tu [.s (wText (wholeF b)).1, .b (wText (wholeF b)).2]) := by
  have c1 := parts_ctr b hb
  by_cases hx : xP b = 2047
  · have e1 : partsD b = .tu [.b false, .i .u64 0, .i .i64 0, .b false] := if_pos hx
    rw [e1] at c1
    rw [wholeF_inf hx]
    show Ctr _ _ _ (.tu [.s [], .b false])
    clear e1 hx
    refine r_fun Tryd.func8 rfl Tryd.ntmps8 Tryd.results8 rfl rfl fun X hL hX => ?_
    repeat' (first
      | with_reducible refine t_seq ?_ | with_reducible refine t_region ?_ | with_reducible refine c_nil ?_ | with_reducible refine n_then ?_
      | with_reducible refine t_ret ?_ | with_reducible refine t_skip ?_ | with_reducible refine t_exit ?_ | with_reducible refine t_block ?_
      | with_reducible refine n_block ?_ | with_reducible refine e_then ?_ | with_reducible refine x_then ?_ | with_reducible refine x_block ?_ | with_reducible refine t_draw ?_
      | refine r_val rfl rfl True.intro ?_ | refine r_gskip rfl rfl rfl ?_ | refine r_gskip2 rfl rfl rfl ?_ | refine r_gval rfl rfl rfl rfl True.intro ?_
      | refine t_true rfl ?_ | refine t_false rfl ?_
      | ((first | refine t_cond_d rfl (fun _ => ?_) (fun _ => ?_) | refine t_cond_i rfl (fun _ => ?_) (fun _ => ?_) | refine t_cond_j rfl (fun _ => ?_) (fun _ => ?_) | refine t_cond_s rfl (fun _ => ?_) (fun _ => ?_) | refine t_cond_n rfl (fun _ => ?_) (fun _ => ?_) | refine t_cond rfl (fun _ => ?_) (fun _ => ?_) | refine c_split_d rfl rfl (fun _ => ?_) (fun _ => ?_) | refine c_split_i rfl rfl (fun _ => ?_) (fun _ => ?_) | refine c_split_j rfl rfl (fun _ => ?_) (fun _ => ?_) | refine c_split_s rfl rfl (fun _ => ?_) (fun _ => ?_) | refine c_split_n rfl rfl (fun _ => ?_) (fun _ => ?_)) <;> try (first | (rename_i hz; exact Bool.noConfusion (show true = false from hz)) | (rename_i hz; exact Bool.noConfusion (show false = true from hz)) | (exfalso; omega)))
      | refine r_val rfl rfl (by (first | omega | exact Nat.le_of_ble_eq_true rfl | (simp only [wrap_u8, IntKind.wrap_i64, IntKind.wrap_i32, wrap_u32', wrap_u64', InI]; (repeat' refine And.intro ?_ ?_) <;> omega) | ((repeat' refine And.intro ?_ ?_) <;> first | omega | rfl | exact Nat.le_refl _ | exact Nat.le_of_ble_eq_true rfl | exact bytesF_one _) | (simp_all; done) | (simp_all; omega))) ?_ | refine r_gval rfl rfl rfl rfl (by (first | omega | exact Nat.le_of_ble_eq_true rfl | (simp only [wrap_u8, IntKind.wrap_i64, IntKind.wrap_i32, wrap_u32', wrap_u64', InI]; (repeat' refine And.intro ?_ ?_) <;> omega) | ((repeat' refine And.intro ?_ ?_) <;> first | omega | rfl | exact Nat.le_refl _ | exact Nat.le_of_ble_eq_true rfl | exact bytesF_one _) | (simp_all; done) | (simp_all; omega))) ?_
      | refine r_obj rfl rfl (by (first | omega | exact Nat.le_of_ble_eq_true rfl | (simp only [wrap_u8, IntKind.wrap_i64, IntKind.wrap_i32, wrap_u32', wrap_u64', InI]; (repeat' refine And.intro ?_ ?_) <;> omega) | ((repeat' refine And.intro ?_ ?_) <;> first | omega | rfl | exact Nat.le_refl _ | exact Nat.le_of_ble_eq_true rfl | exact bytesF_one _) | (simp_all; done) | (simp_all; omega))) ?_ | refine r_sto rfl (by (first | omega | exact Nat.le_of_ble_eq_true rfl | (simp only [wrap_u8, IntKind.wrap_i64, IntKind.wrap_i32, wrap_u32', wrap_u64', InI]; (repeat' refine And.intro ?_ ?_) <;> omega) | ((repeat' refine And.intro ?_ ?_) <;> first | omega | rfl | exact Nat.le_refl _ | exact Nat.le_of_ble_eq_true rfl | exact bytesF_one _) | (simp_all; done) | (simp_all; omega))) ?_ | refine r_gobj rfl rfl rfl rfl (by (first | omega | exact Nat.le_of_ble_eq_true rfl | (simp only [wrap_u8, IntKind.wrap_i64, IntKind.wrap_i32, wrap_u32', wrap_u64', InI]; (repeat' refine And.intro ?_ ?_) <;> omega) | ((repeat' refine And.intro ?_ ?_) <;> first | omega | rfl | exact Nat.le_refl _ | exact Nat.le_of_ble_eq_true rfl | exact bytesF_one _) | (simp_all; done) | (simp_all; omega))) ?_
      | refine e_hit rfl ?_ | refine e_miss rfl ?_
      | refine ⟨by kernel_rfl, ?_⟩ | refine x_end rfl ?_ | refine r_call (f := 39) rfl rfl Tryd.call39 rfl c1 ?_ | ((with_reducible refine c_grd ?_); (fail_if_success (refine c_lit true rfl rfl rfl ?_)); (fail_if_success (refine c_lit false rfl rfl rfl ?_)); refine c_split rfl rfl (fun _ => ?_) (fun _ => ?_)))
    all_goals rfl
  · have e1 : partsD b = .tu [.b (decide (9223372036854775808 ≤ b)), .i .u64 (mB (b % 9223372036854775808)), .i .i64 (eB (b % 9223372036854775808)), .b true] := if_neg hx
    rw [e1] at c1
    rw [wholeF_fin hx]
    generalize hR : wText ((whF (hv (mB (b % 9223372036854775808)) (eB (b % 9223372036854775808)))).map fun n => if 9223372036854775808 ≤ b then -(n : Int) else n) = R
    have hx2 : xB (b % 9223372036854775808) < 2047 := by
      rw [xP_eq]
      unfold xP at hx ⊢
      omega
    have hm := mB_lt (b % 9223372036854775808)
    have he1 := e_ge (b % 9223372036854775808)
    have he2 := eB_lt (b % 9223372036854775808) (by omega)
    have hg : (decide (9223372036854775808 ≤ b)) = true ↔ 9223372036854775808 ≤ b := decide_eq_true_iff
    generalize hneg : decide (9223372036854775808 ≤ b) = neg at *
    have cof : ∀ k : Int, -9007199254740992 ≤ k ∧ k ≤ 9007199254740992 → Ctr Tryd.prog 14 [.i .i64 k, .i .i64 0] (dcV (ofF k 0)) := fun k hk => of_ctr k 0 (by omega) (by omega)
    have ctx : ∀ k : Int, -9007199254740992 ≤ k ∧ k ≤ 9007199254740992 → Ctr Tryd.prog 40 [dcV (ofF k 0)] (.s (textF (ofF k 0).1 (ofF k 0).2.1 (ofF k 0).2.2)) := fun k hk => text_ctr _ _ _ (by have := ofF_len k 0 (by omega) (by omega); omega)
    generalize hM : mB (b % 9223372036854775808) = m0 at *
    generalize hE : eB (b % 9223372036854775808) = e0 at *
    refine r_fun Tryd.func8 rfl Tryd.ntmps8 Tryd.results8 rfl rfl fun X hL hX => ?_
    clear e1 hx hx2 hM hE hneg
    repeat' (first
      | with_reducible refine t_seq ?_ | with_reducible refine t_region ?_ | with_reducible refine c_nil ?_ | with_reducible refine n_then ?_
      | with_reducible refine t_ret ?_ | with_reducible refine t_skip ?_ | with_reducible refine t_exit ?_ | with_reducible refine t_block ?_
      | with_reducible refine n_block ?_ | with_reducible refine e_then ?_ | with_reducible refine x_then ?_ | with_reducible refine x_block ?_ | with_reducible refine t_draw ?_
      | refine r_val rfl rfl True.intro ?_ | refine r_gskip rfl rfl rfl ?_ | refine r_gskip2 rfl rfl rfl ?_ | refine r_gval rfl rfl rfl rfl True.intro ?_
      | refine t_true rfl ?_ | refine t_false rfl ?_
      | ((first | refine t_cond_d rfl (fun _ => ?_) (fun _ => ?_) | refine t_cond_i rfl (fun _ => ?_) (fun _ => ?_) | refine t_cond_j rfl (fun _ => ?_) (fun _ => ?_) | refine t_cond_s rfl (fun _ => ?_) (fun _ => ?_) | refine t_cond_n rfl (fun _ => ?_) (fun _ => ?_) | refine t_cond rfl (fun _ => ?_) (fun _ => ?_) | refine c_split_d rfl rfl (fun _ => ?_) (fun _ => ?_) | refine c_split_i rfl rfl (fun _ => ?_) (fun _ => ?_) | refine c_split_j rfl rfl (fun _ => ?_) (fun _ => ?_) | refine c_split_s rfl rfl (fun _ => ?_) (fun _ => ?_) | refine c_split_n rfl rfl (fun _ => ?_) (fun _ => ?_)) <;> try (first | (rename_i hz; exact Bool.noConfusion (show true = false from hz)) | (rename_i hz; exact Bool.noConfusion (show false = true from hz)) | (exfalso; omega)))
      | refine r_val rfl rfl (by (first | omega | exact Nat.le_of_ble_eq_true rfl | (simp only [wrap_u8, IntKind.wrap_i64, IntKind.wrap_i32, wrap_u32', wrap_u64', InI]; (repeat' refine And.intro ?_ ?_) <;> omega) | ((repeat' refine And.intro ?_ ?_) <;> first | omega | rfl | exact Nat.le_refl _ | exact Nat.le_of_ble_eq_true rfl | exact bytesF_one _) | (simp_all; done) | (simp_all; omega))) ?_ | refine r_gval rfl rfl rfl rfl (by (first | omega | exact Nat.le_of_ble_eq_true rfl | (simp only [wrap_u8, IntKind.wrap_i64, IntKind.wrap_i32, wrap_u32', wrap_u64', InI]; (repeat' refine And.intro ?_ ?_) <;> omega) | ((repeat' refine And.intro ?_ ?_) <;> first | omega | rfl | exact Nat.le_refl _ | exact Nat.le_of_ble_eq_true rfl | exact bytesF_one _) | (simp_all; done) | (simp_all; omega))) ?_
      | refine r_obj rfl rfl (by (first | omega | exact Nat.le_of_ble_eq_true rfl | (simp only [wrap_u8, IntKind.wrap_i64, IntKind.wrap_i32, wrap_u32', wrap_u64', InI]; (repeat' refine And.intro ?_ ?_) <;> omega) | ((repeat' refine And.intro ?_ ?_) <;> first | omega | rfl | exact Nat.le_refl _ | exact Nat.le_of_ble_eq_true rfl | exact bytesF_one _) | (simp_all; done) | (simp_all; omega))) ?_ | refine r_sto rfl (by (first | omega | exact Nat.le_of_ble_eq_true rfl | (simp only [wrap_u8, IntKind.wrap_i64, IntKind.wrap_i32, wrap_u32', wrap_u64', InI]; (repeat' refine And.intro ?_ ?_) <;> omega) | ((repeat' refine And.intro ?_ ?_) <;> first | omega | rfl | exact Nat.le_refl _ | exact Nat.le_of_ble_eq_true rfl | exact bytesF_one _) | (simp_all; done) | (simp_all; omega))) ?_ | refine r_gobj rfl rfl rfl rfl (by (first | omega | exact Nat.le_of_ble_eq_true rfl | (simp only [wrap_u8, IntKind.wrap_i64, IntKind.wrap_i32, wrap_u32', wrap_u64', InI]; (repeat' refine And.intro ?_ ?_) <;> omega) | ((repeat' refine And.intro ?_ ?_) <;> first | omega | rfl | exact Nat.le_refl _ | exact Nat.le_of_ble_eq_true rfl | exact bytesF_one _) | (simp_all; done) | (simp_all; omega))) ?_
      | refine e_hit rfl ?_ | refine e_miss rfl ?_
      | refine ⟨by kernel_rfl, ?_⟩ | refine x_end rfl ?_ | refine r_call (f := 39) rfl rfl Tryd.call39 rfl c1 ?_ | ((with_reducible refine c_grd ?_); (fail_if_success (refine c_lit true rfl rfl rfl ?_)); (fail_if_success (refine c_lit false rfl rfl rfl ?_)); refine c_split rfl rfl (fun _ => ?_) (fun _ => ?_)))
    refine T.loop hL (fun y : Nat × Int => [(4, .b neg), (5, .i .u64 (y.1 : Nat)), (6, .i .i64 y.2)]) (fun _ => []) (fun y => hv y.1 y.2 = hv m0 e0 ∧ y.1 < 9007199254740992 ∧ -1074 ≤ y.2 ∧ y.2 ≤ 1000) (fun y => y.1) (m0, e0)
      ⟨rfl, hm, he1, by dsimp only; omega⟩ ⟨⟨rfl, rfl, rfl, trivial⟩, trivial, rfl, by rw [hX]; intro k hk; cases hk⟩ ?_
    rintro ⟨m, e⟩ ⟨g1, g2, g3, g4⟩
    dsimp only at g1 g2 g3 g4 ⊢
    by_cases hc : e < 0 ∧ m % 2 = 0 ∧ 0 < m
    · have hst := hv_step hc
      rw [g1] at hst
      clear g1 cof ctx c1 hR
      repeat' (first
        | with_reducible refine t_seq ?_ | with_reducible refine t_region ?_ | with_reducible refine c_nil ?_ | with_reducible refine n_then ?_
        | with_reducible refine t_ret ?_ | with_reducible refine t_skip ?_ | with_reducible refine t_exit ?_ | with_reducible refine t_block ?_
        | with_reducible refine n_block ?_ | with_reducible refine e_then ?_ | with_reducible refine x_then ?_ | with_reducible refine x_block ?_ | with_reducible refine t_draw ?_
        | refine r_val rfl rfl True.intro ?_ | refine r_gskip rfl rfl rfl ?_ | refine r_gskip2 rfl rfl rfl ?_ | refine r_gval rfl rfl rfl rfl True.intro ?_
        | refine t_true rfl ?_ | refine t_false rfl ?_
        | ((first | refine t_cond_d rfl (fun _ => ?_) (fun _ => ?_) | refine t_cond_i rfl (fun _ => ?_) (fun _ => ?_) | refine t_cond_j rfl (fun _ => ?_) (fun _ => ?_) | refine t_cond_s rfl (fun _ => ?_) (fun _ => ?_) | refine t_cond_n rfl (fun _ => ?_) (fun _ => ?_) | refine t_cond rfl (fun _ => ?_) (fun _ => ?_) | refine c_split_d rfl rfl (fun _ => ?_) (fun _ => ?_) | refine c_split_i rfl rfl (fun _ => ?_) (fun _ => ?_) | refine c_split_j rfl rfl (fun _ => ?_) (fun _ => ?_) | refine c_split_s rfl rfl (fun _ => ?_) (fun _ => ?_) | refine c_split_n rfl rfl (fun _ => ?_) (fun _ => ?_)) <;> try (first | (rename_i hz; exact Bool.noConfusion (show true = false from hz)) | (rename_i hz; exact Bool.noConfusion (show false = true from hz)) | (exfalso; omega)))
        | refine r_val rfl rfl (by (first | omega | exact Nat.le_of_ble_eq_true rfl | (simp only [wrap_u8, IntKind.wrap_i64, IntKind.wrap_i32, wrap_u32', wrap_u64', InI]; (repeat' refine And.intro ?_ ?_) <;> omega) | ((repeat' refine And.intro ?_ ?_) <;> first | omega | rfl | exact Nat.le_refl _ | exact Nat.le_of_ble_eq_true rfl | exact bytesF_one _) | (simp_all; done) | (simp_all; omega))) ?_ | refine r_gval rfl rfl rfl rfl (by (first | omega | exact Nat.le_of_ble_eq_true rfl | (simp only [wrap_u8, IntKind.wrap_i64, IntKind.wrap_i32, wrap_u32', wrap_u64', InI]; (repeat' refine And.intro ?_ ?_) <;> omega) | ((repeat' refine And.intro ?_ ?_) <;> first | omega | rfl | exact Nat.le_refl _ | exact Nat.le_of_ble_eq_true rfl | exact bytesF_one _) | (simp_all; done) | (simp_all; omega))) ?_
        | refine r_obj rfl rfl (by (first | omega | exact Nat.le_of_ble_eq_true rfl | (simp only [wrap_u8, IntKind.wrap_i64, IntKind.wrap_i32, wrap_u32', wrap_u64', InI]; (repeat' refine And.intro ?_ ?_) <;> omega) | ((repeat' refine And.intro ?_ ?_) <;> first | omega | rfl | exact Nat.le_refl _ | exact Nat.le_of_ble_eq_true rfl | exact bytesF_one _) | (simp_all; done) | (simp_all; omega))) ?_ | refine r_sto rfl (by (first | omega | exact Nat.le_of_ble_eq_true rfl | (simp only [wrap_u8, IntKind.wrap_i64, IntKind.wrap_i32, wrap_u32', wrap_u64', InI]; (repeat' refine And.intro ?_ ?_) <;> omega) | ((repeat' refine And.intro ?_ ?_) <;> first | omega | rfl | exact Nat.le_refl _ | exact Nat.le_of_ble_eq_true rfl | exact bytesF_one _) | (simp_all; done) | (simp_all; omega))) ?_ | refine r_gobj rfl rfl rfl rfl (by (first | omega | exact Nat.le_of_ble_eq_true rfl | (simp only [wrap_u8, IntKind.wrap_i64, IntKind.wrap_i32, wrap_u32', wrap_u64', InI]; (repeat' refine And.intro ?_ ?_) <;> omega) | ((repeat' refine And.intro ?_ ?_) <;> first | omega | rfl | exact Nat.le_refl _ | exact Nat.le_of_ble_eq_true rfl | exact bytesF_one _) | (simp_all; done) | (simp_all; omega))) ?_
        | refine e_hit rfl ?_ | refine e_miss rfl ?_
        | refine ⟨by kernel_rfl, ?_⟩ | refine x_end rfl ?_ | ((with_reducible refine c_grd ?_); (fail_if_success (refine c_lit true rfl rfl rfl ?_)); (fail_if_success (refine c_lit false rfl rfl rfl ?_)); refine c_split rfl rfl (fun _ => ?_) (fun _ => ?_)))
      exact ⟨(m / 2, e + 1), ⟨hst.symm, by dsimp only; omega, by dsimp only; omega, by dsimp only; omega⟩, by dsimp only; omega, ⟨rfl, congrArg (D.i .u64) (by dsimp only; omega), rfl, trivial⟩, trivial, rfl, by rw [hX]; intro k hk; cases hk⟩
    · rw [hv_stop hc] at g1
      rw [← g1] at hR
      clear g1 c1
      by_cases h0 : m = 0
      · subst h0
        have hz : (whF (0, e)).map (fun n => if 9223372036854775808 ≤ b then -(n : Int) else n) = some 0 := by
          rw [whF_zero]
          show some (if 9223372036854775808 ≤ b then -((0 : Nat) : Int) else ((0 : Nat) : Int)) = _
          split <;> rfl
        rw [hz, wText_zero] at hR
        subst hR
        clear hz cof ctx hg
        repeat' (first
          | with_reducible refine t_seq ?_ | with_reducible refine t_region ?_ | with_reducible refine c_nil ?_ | with_reducible refine n_then ?_
          | with_reducible refine t_ret ?_ | with_reducible refine t_skip ?_ | with_reducible refine t_exit ?_ | with_reducible refine t_block ?_
          | with_reducible refine n_block ?_ | with_reducible refine e_then ?_ | with_reducible refine x_then ?_ | with_reducible refine x_block ?_ | with_reducible refine t_draw ?_
          | refine r_val rfl rfl True.intro ?_ | refine r_gskip rfl rfl rfl ?_ | refine r_gskip2 rfl rfl rfl ?_ | refine r_gval rfl rfl rfl rfl True.intro ?_
          | refine t_true rfl ?_ | refine t_false rfl ?_
          | ((first | refine t_cond_d rfl (fun _ => ?_) (fun _ => ?_) | refine t_cond_i rfl (fun _ => ?_) (fun _ => ?_) | refine t_cond_j rfl (fun _ => ?_) (fun _ => ?_) | refine t_cond_s rfl (fun _ => ?_) (fun _ => ?_) | refine t_cond_n rfl (fun _ => ?_) (fun _ => ?_) | refine t_cond rfl (fun _ => ?_) (fun _ => ?_) | refine c_split_d rfl rfl (fun _ => ?_) (fun _ => ?_) | refine c_split_i rfl rfl (fun _ => ?_) (fun _ => ?_) | refine c_split_j rfl rfl (fun _ => ?_) (fun _ => ?_) | refine c_split_s rfl rfl (fun _ => ?_) (fun _ => ?_) | refine c_split_n rfl rfl (fun _ => ?_) (fun _ => ?_)) <;> try (first | (rename_i hz; exact Bool.noConfusion (show true = false from hz)) | (rename_i hz; exact Bool.noConfusion (show false = true from hz)) | (exfalso; omega)))
          | refine r_val rfl rfl (by (first | omega | exact Nat.le_of_ble_eq_true rfl | (simp only [wrap_u8, IntKind.wrap_i64, IntKind.wrap_i32, wrap_u32', wrap_u64', InI]; (repeat' refine And.intro ?_ ?_) <;> omega) | ((repeat' refine And.intro ?_ ?_) <;> first | omega | rfl | exact Nat.le_refl _ | exact Nat.le_of_ble_eq_true rfl | exact bytesF_one _) | (simp_all; done) | (simp_all; omega))) ?_ | refine r_gval rfl rfl rfl rfl (by (first | omega | exact Nat.le_of_ble_eq_true rfl | (simp only [wrap_u8, IntKind.wrap_i64, IntKind.wrap_i32, wrap_u32', wrap_u64', InI]; (repeat' refine And.intro ?_ ?_) <;> omega) | ((repeat' refine And.intro ?_ ?_) <;> first | omega | rfl | exact Nat.le_refl _ | exact Nat.le_of_ble_eq_true rfl | exact bytesF_one _) | (simp_all; done) | (simp_all; omega))) ?_
          | refine r_obj rfl rfl (by (first | omega | exact Nat.le_of_ble_eq_true rfl | (simp only [wrap_u8, IntKind.wrap_i64, IntKind.wrap_i32, wrap_u32', wrap_u64', InI]; (repeat' refine And.intro ?_ ?_) <;> omega) | ((repeat' refine And.intro ?_ ?_) <;> first | omega | rfl | exact Nat.le_refl _ | exact Nat.le_of_ble_eq_true rfl | exact bytesF_one _) | (simp_all; done) | (simp_all; omega))) ?_ | refine r_sto rfl (by (first | omega | exact Nat.le_of_ble_eq_true rfl | (simp only [wrap_u8, IntKind.wrap_i64, IntKind.wrap_i32, wrap_u32', wrap_u64', InI]; (repeat' refine And.intro ?_ ?_) <;> omega) | ((repeat' refine And.intro ?_ ?_) <;> first | omega | rfl | exact Nat.le_refl _ | exact Nat.le_of_ble_eq_true rfl | exact bytesF_one _) | (simp_all; done) | (simp_all; omega))) ?_ | refine r_gobj rfl rfl rfl rfl (by (first | omega | exact Nat.le_of_ble_eq_true rfl | (simp only [wrap_u8, IntKind.wrap_i64, IntKind.wrap_i32, wrap_u32', wrap_u64', InI]; (repeat' refine And.intro ?_ ?_) <;> omega) | ((repeat' refine And.intro ?_ ?_) <;> first | omega | rfl | exact Nat.le_refl _ | exact Nat.le_of_ble_eq_true rfl | exact bytesF_one _) | (simp_all; done) | (simp_all; omega))) ?_
          | refine e_hit rfl ?_ | refine e_miss rfl ?_
          | refine ⟨by kernel_rfl, ?_⟩ | refine x_end rfl ?_ | ((with_reducible refine c_grd ?_); (fail_if_success (refine c_lit true rfl rfl rfl ?_)); (fail_if_success (refine c_lit false rfl rfl rfl ?_)); refine c_split rfl rfl (fun _ => ?_) (fun _ => ?_)))
        all_goals rfl
      · by_cases h1 : e < 0
        · rw [whF_low h0 h1] at hR
          subst hR
          clear cof ctx hg
          repeat' (first
            | with_reducible refine t_seq ?_ | with_reducible refine t_region ?_ | with_reducible refine c_nil ?_ | with_reducible refine n_then ?_
            | with_reducible refine t_ret ?_ | with_reducible refine t_skip ?_ | with_reducible refine t_exit ?_ | with_reducible refine t_block ?_
            | with_reducible refine n_block ?_ | with_reducible refine e_then ?_ | with_reducible refine x_then ?_ | with_reducible refine x_block ?_ | with_reducible refine t_draw ?_
            | refine r_val rfl rfl True.intro ?_ | refine r_gskip rfl rfl rfl ?_ | refine r_gskip2 rfl rfl rfl ?_ | refine r_gval rfl rfl rfl rfl True.intro ?_
            | refine t_true rfl ?_ | refine t_false rfl ?_
            | ((first | refine t_cond_d rfl (fun _ => ?_) (fun _ => ?_) | refine t_cond_i rfl (fun _ => ?_) (fun _ => ?_) | refine t_cond_j rfl (fun _ => ?_) (fun _ => ?_) | refine t_cond_s rfl (fun _ => ?_) (fun _ => ?_) | refine t_cond_n rfl (fun _ => ?_) (fun _ => ?_) | refine t_cond rfl (fun _ => ?_) (fun _ => ?_) | refine c_split_d rfl rfl (fun _ => ?_) (fun _ => ?_) | refine c_split_i rfl rfl (fun _ => ?_) (fun _ => ?_) | refine c_split_j rfl rfl (fun _ => ?_) (fun _ => ?_) | refine c_split_s rfl rfl (fun _ => ?_) (fun _ => ?_) | refine c_split_n rfl rfl (fun _ => ?_) (fun _ => ?_)) <;> try (first | (rename_i hz; exact Bool.noConfusion (show true = false from hz)) | (rename_i hz; exact Bool.noConfusion (show false = true from hz)) | (exfalso; omega)))
            | refine r_val rfl rfl (by (first | omega | exact Nat.le_of_ble_eq_true rfl | (simp only [wrap_u8, IntKind.wrap_i64, IntKind.wrap_i32, wrap_u32', wrap_u64', InI]; (repeat' refine And.intro ?_ ?_) <;> omega) | ((repeat' refine And.intro ?_ ?_) <;> first | omega | rfl | exact Nat.le_refl _ | exact Nat.le_of_ble_eq_true rfl | exact bytesF_one _) | (simp_all; done) | (simp_all; omega))) ?_ | refine r_gval rfl rfl rfl rfl (by (first | omega | exact Nat.le_of_ble_eq_true rfl | (simp only [wrap_u8, IntKind.wrap_i64, IntKind.wrap_i32, wrap_u32', wrap_u64', InI]; (repeat' refine And.intro ?_ ?_) <;> omega) | ((repeat' refine And.intro ?_ ?_) <;> first | omega | rfl | exact Nat.le_refl _ | exact Nat.le_of_ble_eq_true rfl | exact bytesF_one _) | (simp_all; done) | (simp_all; omega))) ?_
            | refine r_obj rfl rfl (by (first | omega | exact Nat.le_of_ble_eq_true rfl | (simp only [wrap_u8, IntKind.wrap_i64, IntKind.wrap_i32, wrap_u32', wrap_u64', InI]; (repeat' refine And.intro ?_ ?_) <;> omega) | ((repeat' refine And.intro ?_ ?_) <;> first | omega | rfl | exact Nat.le_refl _ | exact Nat.le_of_ble_eq_true rfl | exact bytesF_one _) | (simp_all; done) | (simp_all; omega))) ?_ | refine r_sto rfl (by (first | omega | exact Nat.le_of_ble_eq_true rfl | (simp only [wrap_u8, IntKind.wrap_i64, IntKind.wrap_i32, wrap_u32', wrap_u64', InI]; (repeat' refine And.intro ?_ ?_) <;> omega) | ((repeat' refine And.intro ?_ ?_) <;> first | omega | rfl | exact Nat.le_refl _ | exact Nat.le_of_ble_eq_true rfl | exact bytesF_one _) | (simp_all; done) | (simp_all; omega))) ?_ | refine r_gobj rfl rfl rfl rfl (by (first | omega | exact Nat.le_of_ble_eq_true rfl | (simp only [wrap_u8, IntKind.wrap_i64, IntKind.wrap_i32, wrap_u32', wrap_u64', InI]; (repeat' refine And.intro ?_ ?_) <;> omega) | ((repeat' refine And.intro ?_ ?_) <;> first | omega | rfl | exact Nat.le_refl _ | exact Nat.le_of_ble_eq_true rfl | exact bytesF_one _) | (simp_all; done) | (simp_all; omega))) ?_
            | refine e_hit rfl ?_ | refine e_miss rfl ?_
            | refine ⟨by kernel_rfl, ?_⟩ | refine x_end rfl ?_ | ((with_reducible refine c_grd ?_); (fail_if_success (refine c_lit true rfl rfl rfl ?_)); (fail_if_success (refine c_lit false rfl rfl rfl ?_)); refine c_split rfl rfl (fun _ => ?_) (fun _ => ?_)))
          all_goals rfl
        · have hs := shr_lt m e.toNat
          by_cases h2 : 53 < e
          · rw [whF_big h0 h1 (big_pow (by omega) (by omega))] at hR
            subst hR
            clear cof ctx hg hs
            repeat' (first
              | with_reducible refine t_seq ?_ | with_reducible refine t_region ?_ | with_reducible refine c_nil ?_ | with_reducible refine n_then ?_
              | with_reducible refine t_ret ?_ | with_reducible refine t_skip ?_ | with_reducible refine t_exit ?_ | with_reducible refine t_block ?_
              | with_reducible refine n_block ?_ | with_reducible refine e_then ?_ | with_reducible refine x_then ?_ | with_reducible refine x_block ?_ | with_reducible refine t_draw ?_
              | refine r_val rfl rfl True.intro ?_ | refine r_gskip rfl rfl rfl ?_ | refine r_gskip2 rfl rfl rfl ?_ | refine r_gval rfl rfl rfl rfl True.intro ?_
              | refine t_true rfl ?_ | refine t_false rfl ?_
              | ((first | refine t_cond_d rfl (fun _ => ?_) (fun _ => ?_) | refine t_cond_i rfl (fun _ => ?_) (fun _ => ?_) | refine t_cond_j rfl (fun _ => ?_) (fun _ => ?_) | refine t_cond_s rfl (fun _ => ?_) (fun _ => ?_) | refine t_cond_n rfl (fun _ => ?_) (fun _ => ?_) | refine t_cond rfl (fun _ => ?_) (fun _ => ?_) | refine c_split_d rfl rfl (fun _ => ?_) (fun _ => ?_) | refine c_split_i rfl rfl (fun _ => ?_) (fun _ => ?_) | refine c_split_j rfl rfl (fun _ => ?_) (fun _ => ?_) | refine c_split_s rfl rfl (fun _ => ?_) (fun _ => ?_) | refine c_split_n rfl rfl (fun _ => ?_) (fun _ => ?_)) <;> try (first | (rename_i hz; exact Bool.noConfusion (show true = false from hz)) | (rename_i hz; exact Bool.noConfusion (show false = true from hz)) | (exfalso; omega)))
              | refine r_val rfl rfl (by (first | omega | exact Nat.le_of_ble_eq_true rfl | (simp only [wrap_u8, IntKind.wrap_i64, IntKind.wrap_i32, wrap_u32', wrap_u64', InI]; (repeat' refine And.intro ?_ ?_) <;> omega) | ((repeat' refine And.intro ?_ ?_) <;> first | omega | rfl | exact Nat.le_refl _ | exact Nat.le_of_ble_eq_true rfl | exact bytesF_one _) | (simp_all; done) | (simp_all; omega))) ?_ | refine r_gval rfl rfl rfl rfl (by (first | omega | exact Nat.le_of_ble_eq_true rfl | (simp only [wrap_u8, IntKind.wrap_i64, IntKind.wrap_i32, wrap_u32', wrap_u64', InI]; (repeat' refine And.intro ?_ ?_) <;> omega) | ((repeat' refine And.intro ?_ ?_) <;> first | omega | rfl | exact Nat.le_refl _ | exact Nat.le_of_ble_eq_true rfl | exact bytesF_one _) | (simp_all; done) | (simp_all; omega))) ?_
              | refine r_obj rfl rfl (by (first | omega | exact Nat.le_of_ble_eq_true rfl | (simp only [wrap_u8, IntKind.wrap_i64, IntKind.wrap_i32, wrap_u32', wrap_u64', InI]; (repeat' refine And.intro ?_ ?_) <;> omega) | ((repeat' refine And.intro ?_ ?_) <;> first | omega | rfl | exact Nat.le_refl _ | exact Nat.le_of_ble_eq_true rfl | exact bytesF_one _) | (simp_all; done) | (simp_all; omega))) ?_ | refine r_sto rfl (by (first | omega | exact Nat.le_of_ble_eq_true rfl | (simp only [wrap_u8, IntKind.wrap_i64, IntKind.wrap_i32, wrap_u32', wrap_u64', InI]; (repeat' refine And.intro ?_ ?_) <;> omega) | ((repeat' refine And.intro ?_ ?_) <;> first | omega | rfl | exact Nat.le_refl _ | exact Nat.le_of_ble_eq_true rfl | exact bytesF_one _) | (simp_all; done) | (simp_all; omega))) ?_ | refine r_gobj rfl rfl rfl rfl (by (first | omega | exact Nat.le_of_ble_eq_true rfl | (simp only [wrap_u8, IntKind.wrap_i64, IntKind.wrap_i32, wrap_u32', wrap_u64', InI]; (repeat' refine And.intro ?_ ?_) <;> omega) | ((repeat' refine And.intro ?_ ?_) <;> first | omega | rfl | exact Nat.le_refl _ | exact Nat.le_of_ble_eq_true rfl | exact bytesF_one _) | (simp_all; done) | (simp_all; omega))) ?_
              | refine e_hit rfl ?_ | refine e_miss rfl ?_
              | refine ⟨by kernel_rfl, ?_⟩ | refine x_end rfl ?_ | ((with_reducible refine c_grd ?_); (fail_if_success (refine c_lit true rfl rfl rfl ?_)); (fail_if_success (refine c_lit false rfl rfl rfl ?_)); refine c_split rfl rfl (fun _ => ?_) (fun _ => ?_)))
            all_goals rfl
          · by_cases h3 : 9007199254740992 < m * 2 ^ e.toNat
            · rw [whF_big h0 h1 h3] at hR
              replace hs := hs.2 h3
              subst hR
              clear cof ctx hg h3
              repeat' (first
                | with_reducible refine t_seq ?_ | with_reducible refine t_region ?_ | with_reducible refine c_nil ?_ | with_reducible refine n_then ?_
                | with_reducible refine t_ret ?_ | with_reducible refine t_skip ?_ | with_reducible refine t_exit ?_ | with_reducible refine t_block ?_
                | with_reducible refine n_block ?_ | with_reducible refine e_then ?_ | with_reducible refine x_then ?_ | with_reducible refine x_block ?_ | with_reducible refine t_draw ?_
                | refine r_val rfl rfl True.intro ?_ | refine r_gskip rfl rfl rfl ?_ | refine r_gskip2 rfl rfl rfl ?_ | refine r_gval rfl rfl rfl rfl True.intro ?_
                | refine t_true rfl ?_ | refine t_false rfl ?_
                | ((first | refine t_cond_d rfl (fun _ => ?_) (fun _ => ?_) | refine t_cond_i rfl (fun _ => ?_) (fun _ => ?_) | refine t_cond_j rfl (fun _ => ?_) (fun _ => ?_) | refine t_cond_s rfl (fun _ => ?_) (fun _ => ?_) | refine t_cond_n rfl (fun _ => ?_) (fun _ => ?_) | refine t_cond rfl (fun _ => ?_) (fun _ => ?_) | refine c_split_d rfl rfl (fun _ => ?_) (fun _ => ?_) | refine c_split_i rfl rfl (fun _ => ?_) (fun _ => ?_) | refine c_split_j rfl rfl (fun _ => ?_) (fun _ => ?_) | refine c_split_s rfl rfl (fun _ => ?_) (fun _ => ?_) | refine c_split_n rfl rfl (fun _ => ?_) (fun _ => ?_)) <;> try (first | (rename_i hz; exact Bool.noConfusion (show true = false from hz)) | (rename_i hz; exact Bool.noConfusion (show false = true from hz)) | (exfalso; omega)))
                | refine r_val rfl rfl (by (first | omega | exact Nat.le_of_ble_eq_true rfl | (simp only [wrap_u8, IntKind.wrap_i64, IntKind.wrap_i32, wrap_u32', wrap_u64', InI]; (repeat' refine And.intro ?_ ?_) <;> omega) | ((repeat' refine And.intro ?_ ?_) <;> first | omega | rfl | exact Nat.le_refl _ | exact Nat.le_of_ble_eq_true rfl | exact bytesF_one _) | (simp_all; done) | (simp_all; omega))) ?_ | refine r_gval rfl rfl rfl rfl (by (first | omega | exact Nat.le_of_ble_eq_true rfl | (simp only [wrap_u8, IntKind.wrap_i64, IntKind.wrap_i32, wrap_u32', wrap_u64', InI]; (repeat' refine And.intro ?_ ?_) <;> omega) | ((repeat' refine And.intro ?_ ?_) <;> first | omega | rfl | exact Nat.le_refl _ | exact Nat.le_of_ble_eq_true rfl | exact bytesF_one _) | (simp_all; done) | (simp_all; omega))) ?_
                | refine r_obj rfl rfl (by (first | omega | exact Nat.le_of_ble_eq_true rfl | (simp only [wrap_u8, IntKind.wrap_i64, IntKind.wrap_i32, wrap_u32', wrap_u64', InI]; (repeat' refine And.intro ?_ ?_) <;> omega) | ((repeat' refine And.intro ?_ ?_) <;> first | omega | rfl | exact Nat.le_refl _ | exact Nat.le_of_ble_eq_true rfl | exact bytesF_one _) | (simp_all; done) | (simp_all; omega))) ?_ | refine r_sto rfl (by (first | omega | exact Nat.le_of_ble_eq_true rfl | (simp only [wrap_u8, IntKind.wrap_i64, IntKind.wrap_i32, wrap_u32', wrap_u64', InI]; (repeat' refine And.intro ?_ ?_) <;> omega) | ((repeat' refine And.intro ?_ ?_) <;> first | omega | rfl | exact Nat.le_refl _ | exact Nat.le_of_ble_eq_true rfl | exact bytesF_one _) | (simp_all; done) | (simp_all; omega))) ?_ | refine r_gobj rfl rfl rfl rfl (by (first | omega | exact Nat.le_of_ble_eq_true rfl | (simp only [wrap_u8, IntKind.wrap_i64, IntKind.wrap_i32, wrap_u32', wrap_u64', InI]; (repeat' refine And.intro ?_ ?_) <;> omega) | ((repeat' refine And.intro ?_ ?_) <;> first | omega | rfl | exact Nat.le_refl _ | exact Nat.le_of_ble_eq_true rfl | exact bytesF_one _) | (simp_all; done) | (simp_all; omega))) ?_
                | refine e_hit rfl ?_ | refine e_miss rfl ?_
                | refine ⟨by kernel_rfl, ?_⟩ | refine x_end rfl ?_ | ((with_reducible refine c_grd ?_); (fail_if_success (refine c_lit true rfl rfl rfl ?_)); (fail_if_success (refine c_lit false rfl rfl rfl ?_)); refine c_split rfl rfl (fun _ => ?_) (fun _ => ?_)))
              all_goals rfl
            · rw [whF_ok h0 h1 h3] at hR
              replace hs : ¬ (9007199254740992 : Int) / 2 ^ e.toNat < (m : Int) := fun h => h3 (hs.1 h)
              have hN : IntKind.i64.wrap (m : Int) * 2 ^ e.toNat = ((m * 2 ^ e.toNat : Nat) : Int) := by
                rw [show IntKind.i64.wrap (m : Int) = m by rw [IntKind.wrap_i64]; omega]
                simp
              have hN2 : -9007199254740992 ≤ IntKind.i64.wrap (m : Int) * 2 ^ e.toNat ∧ IntKind.i64.wrap (m : Int) * 2 ^ e.toNat ≤ 9007199254740992 := by
                rw [hN]
                omega
              have hR : wText (some (if 9223372036854775808 ≤ b then -((m * 2 ^ e.toNat : Nat) : Int) else ((m * 2 ^ e.toNat : Nat) : Int))) = R := hR
              rw [← hN] at hR
              have hR1 : neg = true → wText (some (-(IntKind.i64.wrap (m : Int) * 2 ^ e.toNat))) = R := fun h => by rw [← hR, if_pos (hg.1 h)]
              have hR2 : ¬ neg = true → wText (some (IntKind.i64.wrap (m : Int) * 2 ^ e.toNat)) = R := fun h => by rw [← hR, if_neg (fun h2 => h (hg.2 h2))]
              clear hR hg
              clear hN h3
              repeat' (first
                | with_reducible refine t_seq ?_ | with_reducible refine t_region ?_ | with_reducible refine c_nil ?_ | with_reducible refine n_then ?_
                | with_reducible refine t_ret ?_ | with_reducible refine t_skip ?_ | with_reducible refine t_exit ?_ | with_reducible refine t_block ?_
                | with_reducible refine n_block ?_ | with_reducible refine e_then ?_ | with_reducible refine x_then ?_ | with_reducible refine x_block ?_ | with_reducible refine t_draw ?_
                | refine r_val rfl rfl True.intro ?_ | refine r_gskip rfl rfl rfl ?_ | refine r_gskip2 rfl rfl rfl ?_ | refine r_gval rfl rfl rfl rfl True.intro ?_
                | refine t_true rfl ?_ | refine t_false rfl ?_
                | ((first | refine t_cond_d rfl (fun _ => ?_) (fun _ => ?_) | refine t_cond_i rfl (fun _ => ?_) (fun _ => ?_) | refine t_cond_j rfl (fun _ => ?_) (fun _ => ?_) | refine t_cond_s rfl (fun _ => ?_) (fun _ => ?_) | refine t_cond_n rfl (fun _ => ?_) (fun _ => ?_) | refine t_cond rfl (fun _ => ?_) (fun _ => ?_) | refine c_split_d rfl rfl (fun _ => ?_) (fun _ => ?_) | refine c_split_i rfl rfl (fun _ => ?_) (fun _ => ?_) | refine c_split_j rfl rfl (fun _ => ?_) (fun _ => ?_) | refine c_split_s rfl rfl (fun _ => ?_) (fun _ => ?_) | refine c_split_n rfl rfl (fun _ => ?_) (fun _ => ?_)) <;> try (first | (rename_i hz; exact Bool.noConfusion (show true = false from hz)) | (rename_i hz; exact Bool.noConfusion (show false = true from hz)) | (exfalso; omega)))
                | refine r_val rfl rfl (by (first | omega | exact Nat.le_of_ble_eq_true rfl | (simp only [wrap_u8, IntKind.wrap_i64, IntKind.wrap_i32, wrap_u32', wrap_u64', InI]; (repeat' refine And.intro ?_ ?_) <;> omega) | ((repeat' refine And.intro ?_ ?_) <;> first | omega | rfl | exact Nat.le_refl _ | exact Nat.le_of_ble_eq_true rfl | exact bytesF_one _) | (simp_all; done) | (simp_all; omega))) ?_ | refine r_gval rfl rfl rfl rfl (by (first | omega | exact Nat.le_of_ble_eq_true rfl | (simp only [wrap_u8, IntKind.wrap_i64, IntKind.wrap_i32, wrap_u32', wrap_u64', InI]; (repeat' refine And.intro ?_ ?_) <;> omega) | ((repeat' refine And.intro ?_ ?_) <;> first | omega | rfl | exact Nat.le_refl _ | exact Nat.le_of_ble_eq_true rfl | exact bytesF_one _) | (simp_all; done) | (simp_all; omega))) ?_
                | refine r_obj rfl rfl (by (first | omega | exact Nat.le_of_ble_eq_true rfl | (simp only [wrap_u8, IntKind.wrap_i64, IntKind.wrap_i32, wrap_u32', wrap_u64', InI]; (repeat' refine And.intro ?_ ?_) <;> omega) | ((repeat' refine And.intro ?_ ?_) <;> first | omega | rfl | exact Nat.le_refl _ | exact Nat.le_of_ble_eq_true rfl | exact bytesF_one _) | (simp_all; done) | (simp_all; omega))) ?_ | refine r_sto rfl (by (first | omega | exact Nat.le_of_ble_eq_true rfl | (simp only [wrap_u8, IntKind.wrap_i64, IntKind.wrap_i32, wrap_u32', wrap_u64', InI]; (repeat' refine And.intro ?_ ?_) <;> omega) | ((repeat' refine And.intro ?_ ?_) <;> first | omega | rfl | exact Nat.le_refl _ | exact Nat.le_of_ble_eq_true rfl | exact bytesF_one _) | (simp_all; done) | (simp_all; omega))) ?_ | refine r_gobj rfl rfl rfl rfl (by (first | omega | exact Nat.le_of_ble_eq_true rfl | (simp only [wrap_u8, IntKind.wrap_i64, IntKind.wrap_i32, wrap_u32', wrap_u64', InI]; (repeat' refine And.intro ?_ ?_) <;> omega) | ((repeat' refine And.intro ?_ ?_) <;> first | omega | rfl | exact Nat.le_refl _ | exact Nat.le_of_ble_eq_true rfl | exact bytesF_one _) | (simp_all; done) | (simp_all; omega))) ?_
                | refine e_hit rfl ?_ | refine e_miss rfl ?_
                | refine ⟨by kernel_rfl, ?_⟩ | refine x_end rfl ?_ | refine r_call (f := 14) rfl rfl Tryd.call14 rfl (cof _ (by omega)) ?_ | refine r_call (f := 40) rfl rfl Tryd.call40 rfl (ctx _ (by omega)) ?_ | ((with_reducible refine c_grd ?_); (fail_if_success (refine c_lit true rfl rfl rfl ?_)); (fail_if_success (refine c_lit false rfl rfl rfl ?_)); refine c_split rfl rfl (fun _ => ?_) (fun _ => ?_)))
              · rw [← hR1 ‹_›]
                rfl
              · rw [← hR2 (Bool.eq_false_iff.1 ‹_›)]
                rfl

end Go.Proofs.YteidmimpkipcfaaDoor.Flow
