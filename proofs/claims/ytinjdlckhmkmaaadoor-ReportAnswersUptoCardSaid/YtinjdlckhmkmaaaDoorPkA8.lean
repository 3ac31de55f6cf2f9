/- The texts R4, U18, R5, M1, M2, M4, U19, R8, R9, R22, FlowX, R15, one behind the other. -/
import Derived.Test.YtinjdlckhmkmaaaDoorPkA3
import Derived.Test.YtinjdlckhmkmaaaDoorPkA4
import Derived.Test.YtinjdlckhmkmaaaDoorPkA5
import Derived.Test.YtinjdlckhmkmaaaDoorPkA7
/- REPORT: strings.Join; numbers, places, points and sixteens as texts, by both. -/
namespace Go.Proofs.YtinjdlckhmkmaaaDoor.Flow
open Go

/-- Texts in a row. -/
def txF (l : List (List UInt8)) : Nat → List D := fun i => [.s (l.getD i [])]

theorem txF_snoc (l : List (List UInt8)) (x : List UInt8) (g : Nat → List D) (hg : g 0 = [.s x]) : catF l.length (txF l) 1 g = txF (l ++ [x]) := by
  funext j
  unfold catF txF
  by_cases h : j < l.length
  · rw [if_pos h]
    simp [List.getD_eq_getElem?_getD, h, List.getElem?_append_left]
  · rw [if_neg h]
    by_cases h2 : j < l.length + 1
    · rw [if_pos h2, show j - l.length = 0 by omega, hg]
      simp [List.getD_eq_getElem?_getD, List.getElem?_append_right (show l.length ≤ j by omega), show j - l.length = 0 by omega]
    · rw [if_neg h2]
      simp [List.getD_eq_getElem?_getD, List.getElem?_append_right (show l.length ≤ j by omega)]
      rw [List.getElem?_eq_none (show l.length ≤ j by omega), List.getElem?_eq_none (by simp; omega)]

theorem gs_snoc (k n : Nat) (l l2 : List (List UInt8)) (x : List UInt8) (g : Nat → List D) (hn : n = l.length) (hg : g 0 = [.s x]) (h2 : l2 = l ++ [x]) : D.gs k 1 (n + 1) (catF n (txF l) 1 g) = D.gs k 1 l2.length (txF l2) := by
  subst h2
  subst hn
  rw [txF_snoc l x g hg, List.length_append]
  rfl

theorem join_ctr (xs : List (List UInt8)) (n : Nat) (f : Nat → List D) (sep : List UInt8) (hn : n = xs.length) (hf : ∀ i, i < xs.length → f i = [.s (xs.getD i [])]) (hN : xs.length ≤ 140737488355328) (hl : (Lib.join xs sep).length ≤ 140737488355328) :
    Ctr Tryd.prog 27 [.sl 1 n f, .s sep] (.s (Lib.join xs sep)) := by
  subst hn
  intro w S vs hv hg hn hr
  have h0 := hr 0 (by simp)
  have h1 := hr 1 (by simp)
  rw [two_of hn]
  generalize vs.getD 0 undef = v0 at *
  generalize vs.getD 1 undef = v1 at *
  have h1 : Rel S w noRho (.s sep) v1 := h1
  have h0 : Rel S w noRho (.sl 1 xs.length f) v0 := h0
  cases h1
  cases h0 with
  | sl _ _ _ _ a cap c hc hm hl2 hcell hrel =>
  by_cases hz : xs.length = 0
  · obtain rfl : xs = [] := List.length_eq_zero_iff.1 hz
    refine (Tryd.strings_Join_none a cap ⟨sep.toArray⟩ w).mono ?_
    rintro e w' ⟨rfl, rfl⟩
    exact ⟨_, S, rfl, .s _ _, hist_same _ S hv hg⟩
  · obtain ⟨b, o, rfl, hS, _⟩ := hcell 0 0 (by omega) (by omega)
    have e2 : (xs.map fun l => (⟨l.toArray⟩ : ByteArray)).map (·.data.toList) = xs := by
      rw [List.map_map]
      exact (List.map_congr_left fun l _ => rfl).trans (List.map_id _)
    have key := Tryd.strings_Join b o cap (xs.map fun l => (⟨l.toArray⟩ : ByteArray)) ⟨sep.toArray⟩ w ?_ (hv _ _ hS) (by simpa using hN) (by simpa using hc) (by rw [e2]; exact hl)
    · rw [e2, List.length_map] at key
      refine key.mono ?_
      rintro e w' ⟨rfl, hb⟩
      exact ⟨_, S, rfl, .s _ _, hist_below hv hg hb⟩
    · intro j x hx
      rw [List.getElem?_map] at hx
      by_cases hj : j < xs.length
      · rw [List.getElem?_eq_getElem hj, Option.map_some, Option.some.injEq] at hx
        subst hx
        obtain ⟨b2, o2, he, _, h3⟩ := hcell j 0 hj (by omega)
        obtain ⟨rfl, rfl⟩ : b2 = b ∧ o2 = o := by simpa [eq_comm] using he
        have h4 := hrel j 0 hj (by omega)
        rw [hf j hj] at h4
        have h5 : Rel S w noRho (.s (xs.getD j [])) (c j 0) := h4
        generalize c j 0 = u at *
        cases h5
        rw [List.getD_eq_getElem?_getD, List.getElem?_eq_getElem hj, Option.getD_some] at h3
        simpa using h3
      · rw [List.getElem?_eq_none (by omega)] at hx
        cases hx

theorem rtext_ctrR (xs : List (List UInt8)) (n : Nat) (f : Nat → List D) (hn : n = xs.length) (hf : ∀ i, i < xs.length → f i = [.s (xs.getD i [])]) (hN : xs.length ≤ 140737488355328) (hl : xs.flatten.length ≤ 140737488355328) :
    Ctr Tryd.prog 24 [.sl 1 n f] (.s xs.flatten) := by
  have c1 := join_ctr xs n f [] hn hf hN (by rw [join_plain]; exact hl)
  rw [join_plain] at c1
  refine r_fun Tryd.func24 rfl Tryd.ntmps24 Tryd.results24 rfl rfl fun X hL hX => ?_
  repeat' (first
    | with_reducible refine t_seq ?_ | with_reducible refine t_region ?_ | with_reducible refine c_nil ?_ | with_reducible refine n_then ?_
    | with_reducible refine t_ret ?_ | with_reducible refine t_skip ?_ | with_reducible refine t_exit ?_ | with_reducible refine t_block ?_
    | with_reducible refine n_block ?_ | with_reducible refine e_then ?_ | with_reducible refine x_then ?_ | with_reducible refine x_block ?_ | with_reducible refine t_draw ?_
    | refine r_val rfl rfl True.intro ?_ | refine r_gskip rfl rfl rfl ?_ | refine r_gskip2 rfl rfl rfl ?_ | refine r_gval rfl rfl rfl rfl True.intro ?_
    | refine t_true rfl ?_ | refine t_false rfl ?_
    | ((first | refine t_cond_d rfl (fun _ => ?_) (fun _ => ?_) | refine t_cond_i rfl (fun _ => ?_) (fun _ => ?_) | refine t_cond_j rfl (fun _ => ?_) (fun _ => ?_) | refine t_cond_s rfl (fun _ => ?_) (fun _ => ?_) | refine t_cond_n rfl (fun _ => ?_) (fun _ => ?_) | refine t_cond rfl (fun _ => ?_) (fun _ => ?_) | refine c_split_d rfl rfl (fun _ => ?_) (fun _ => ?_) | refine c_split_i rfl rfl (fun _ => ?_) (fun _ => ?_) | refine c_split_j rfl rfl (fun _ => ?_) (fun _ => ?_) | refine c_split_s rfl rfl (fun _ => ?_) (fun _ => ?_) | refine c_split_n rfl rfl (fun _ => ?_) (fun _ => ?_)) <;> try (first | (rename_i hz; exact Bool.noConfusion (show true = false from hz)) | (rename_i hz; exact Bool.noConfusion (show false = true from hz)) | (exfalso; omega)))
    | refine r_val rfl rfl (by (first | omega | exact Nat.le_of_ble_eq_true rfl | (simp only [wrap_u8, IntKind.wrap_i64, IntKind.wrap_i32, wrap_u32', wrap_u64', InI]; (repeat' refine And.intro ?_ ?_) <;> omega) | ((repeat' refine And.intro ?_ ?_) <;> first | omega | rfl | exact Nat.le_refl _ | exact Nat.le_of_ble_eq_true rfl | exact bytesF_one _) | (simp_all; done) | (simp_all; omega))) ?_ | refine r_gval rfl rfl rfl rfl (by (first | omega | exact Nat.le_of_ble_eq_true rfl | (simp only [wrap_u8, IntKind.wrap_i64, IntKind.wrap_i32, wrap_u32', wrap_u64', InI]; (repeat' refine And.intro ?_ ?_) <;> omega) | ((repeat' refine And.intro ?_ ?_) <;> first | omega | rfl | exact Nat.le_refl _ | exact Nat.le_of_ble_eq_true rfl | exact bytesF_one _) | (simp_all; done) | (simp_all; omega))) ?_
    | refine r_obj rfl rfl (by (first | omega | exact Nat.le_of_ble_eq_true rfl | (simp only [wrap_u8, IntKind.wrap_i64, IntKind.wrap_i32, wrap_u32', wrap_u64', InI]; (repeat' refine And.intro ?_ ?_) <;> omega) | ((repeat' refine And.intro ?_ ?_) <;> first | omega | rfl | exact Nat.le_refl _ | exact Nat.le_of_ble_eq_true rfl | exact bytesF_one _) | (simp_all; done) | (simp_all; omega))) ?_ | refine r_sto rfl (by (first | omega | exact Nat.le_of_ble_eq_true rfl | (simp only [wrap_u8, IntKind.wrap_i64, IntKind.wrap_i32, wrap_u32', wrap_u64', InI]; (repeat' refine And.intro ?_ ?_) <;> omega) | ((repeat' refine And.intro ?_ ?_) <;> first | omega | rfl | exact Nat.le_refl _ | exact Nat.le_of_ble_eq_true rfl | exact bytesF_one _) | (simp_all; done) | (simp_all; omega))) ?_ | refine r_gobj rfl rfl rfl rfl (by (first | omega | exact Nat.le_of_ble_eq_true rfl | (simp only [wrap_u8, IntKind.wrap_i64, IntKind.wrap_i32, wrap_u32', wrap_u64', InI]; (repeat' refine And.intro ?_ ?_) <;> omega) | ((repeat' refine And.intro ?_ ?_) <;> first | omega | rfl | exact Nat.le_refl _ | exact Nat.le_of_ble_eq_true rfl | exact bytesF_one _) | (simp_all; done) | (simp_all; omega))) ?_
    | refine e_hit rfl ?_ | refine e_miss rfl ?_
    | refine ⟨by kernel_rfl, ?_⟩ | refine x_end rfl ?_ | refine r_call (f := 27) rfl rfl Tryd.call27 rfl c1 ?_ | ((with_reducible refine c_grd ?_); (fail_if_success (refine c_lit true rfl rfl rfl ?_)); (fail_if_success (refine c_lit false rfl rfl rfl ?_)); refine c_split rfl rfl (fun _ => ?_) (fun _ => ?_)))
  all_goals rfl

theorem rnum_ctrR (n : Int) (h0 : -9223372036854775808 ≤ n) (h1 : n ≤ 9223372036854775807) : Ctr Tryd.prog 25 [.i .i64 n] (.s (Lib.itoa n)) := by
  have c1 := itoa_ctr n h0 h1
  refine r_fun Tryd.func25 rfl Tryd.ntmps25 Tryd.results25 rfl rfl fun X hL hX => ?_
  repeat' (first
    | with_reducible refine t_seq ?_ | with_reducible refine t_region ?_ | with_reducible refine c_nil ?_ | with_reducible refine n_then ?_
    | with_reducible refine t_ret ?_ | with_reducible refine t_skip ?_ | with_reducible refine t_exit ?_ | with_reducible refine t_block ?_
    | with_reducible refine n_block ?_ | with_reducible refine e_then ?_ | with_reducible refine x_then ?_ | with_reducible refine x_block ?_ | with_reducible refine t_draw ?_
    | refine r_val rfl rfl True.intro ?_ | refine r_gskip rfl rfl rfl ?_ | refine r_gskip2 rfl rfl rfl ?_ | refine r_gval rfl rfl rfl rfl True.intro ?_
    | refine t_true rfl ?_ | refine t_false rfl ?_
    | ((first | refine t_cond_d rfl (fun _ => ?_) (fun _ => ?_) | refine t_cond_i rfl (fun _ => ?_) (fun _ => ?_) | refine t_cond_j rfl (fun _ => ?_) (fun _ => ?_) | refine t_cond_s rfl (fun _ => ?_) (fun _ => ?_) | refine t_cond_n rfl (fun _ => ?_) (fun _ => ?_) | refine t_cond rfl (fun _ => ?_) (fun _ => ?_) | refine c_split_d rfl rfl (fun _ => ?_) (fun _ => ?_) | refine c_split_i rfl rfl (fun _ => ?_) (fun _ => ?_) | refine c_split_j rfl rfl (fun _ => ?_) (fun _ => ?_) | refine c_split_s rfl rfl (fun _ => ?_) (fun _ => ?_) | refine c_split_n rfl rfl (fun _ => ?_) (fun _ => ?_)) <;> try (first | (rename_i hz; exact Bool.noConfusion (show true = false from hz)) | (rename_i hz; exact Bool.noConfusion (show false = true from hz)) | (exfalso; omega)))
    | refine r_val rfl rfl (by (first | omega | exact Nat.le_of_ble_eq_true rfl | (simp only [wrap_u8, IntKind.wrap_i64, IntKind.wrap_i32, wrap_u32', wrap_u64', InI]; (repeat' refine And.intro ?_ ?_) <;> omega) | ((repeat' refine And.intro ?_ ?_) <;> first | omega | rfl | exact Nat.le_refl _ | exact Nat.le_of_ble_eq_true rfl | exact bytesF_one _) | (simp_all; done) | (simp_all; omega))) ?_ | refine r_gval rfl rfl rfl rfl (by (first | omega | exact Nat.le_of_ble_eq_true rfl | (simp only [wrap_u8, IntKind.wrap_i64, IntKind.wrap_i32, wrap_u32', wrap_u64', InI]; (repeat' refine And.intro ?_ ?_) <;> omega) | ((repeat' refine And.intro ?_ ?_) <;> first | omega | rfl | exact Nat.le_refl _ | exact Nat.le_of_ble_eq_true rfl | exact bytesF_one _) | (simp_all; done) | (simp_all; omega))) ?_
    | refine r_obj rfl rfl (by (first | omega | exact Nat.le_of_ble_eq_true rfl | (simp only [wrap_u8, IntKind.wrap_i64, IntKind.wrap_i32, wrap_u32', wrap_u64', InI]; (repeat' refine And.intro ?_ ?_) <;> omega) | ((repeat' refine And.intro ?_ ?_) <;> first | omega | rfl | exact Nat.le_refl _ | exact Nat.le_of_ble_eq_true rfl | exact bytesF_one _) | (simp_all; done) | (simp_all; omega))) ?_ | refine r_sto rfl (by (first | omega | exact Nat.le_of_ble_eq_true rfl | (simp only [wrap_u8, IntKind.wrap_i64, IntKind.wrap_i32, wrap_u32', wrap_u64', InI]; (repeat' refine And.intro ?_ ?_) <;> omega) | ((repeat' refine And.intro ?_ ?_) <;> first | omega | rfl | exact Nat.le_refl _ | exact Nat.le_of_ble_eq_true rfl | exact bytesF_one _) | (simp_all; done) | (simp_all; omega))) ?_ | refine r_gobj rfl rfl rfl rfl (by (first | omega | exact Nat.le_of_ble_eq_true rfl | (simp only [wrap_u8, IntKind.wrap_i64, IntKind.wrap_i32, wrap_u32', wrap_u64', InI]; (repeat' refine And.intro ?_ ?_) <;> omega) | ((repeat' refine And.intro ?_ ?_) <;> first | omega | rfl | exact Nat.le_refl _ | exact Nat.le_of_ble_eq_true rfl | exact bytesF_one _) | (simp_all; done) | (simp_all; omega))) ?_
    | refine e_hit rfl ?_ | refine e_miss rfl ?_
    | refine ⟨by kernel_rfl, ?_⟩ | refine x_end rfl ?_ | refine r_call (f := 46) rfl rfl Tryd.call46 rfl c1 ?_ | ((with_reducible refine c_grd ?_); (fail_if_success (refine c_lit true rfl rfl rfl ?_)); (fail_if_success (refine c_lit false rfl rfl rfl ?_)); refine c_split rfl rfl (fun _ => ?_) (fun _ => ?_)))
  all_goals rfl

theorem rbig_ctr (n : Nat) (h1 : n < 18446744073709551616) : Ctr Tryd.prog 32 [.i .u64 (n : Nat)] (.s (Lib.decDigits n)) := by
  have c1 := fmtUint_ctr n h1
  refine r_fun Tryd.func32 rfl Tryd.ntmps32 Tryd.results32 rfl rfl fun X hL hX => ?_
  repeat' (first
    | with_reducible refine t_seq ?_ | with_reducible refine t_region ?_ | with_reducible refine c_nil ?_ | with_reducible refine n_then ?_
    | with_reducible refine t_ret ?_ | with_reducible refine t_skip ?_ | with_reducible refine t_exit ?_ | with_reducible refine t_block ?_
    | with_reducible refine n_block ?_ | with_reducible refine e_then ?_ | with_reducible refine x_then ?_ | with_reducible refine x_block ?_ | with_reducible refine t_draw ?_
    | refine r_val rfl rfl True.intro ?_ | refine r_gskip rfl rfl rfl ?_ | refine r_gskip2 rfl rfl rfl ?_ | refine r_gval rfl rfl rfl rfl True.intro ?_
    | refine t_true rfl ?_ | refine t_false rfl ?_
    | ((first | refine t_cond_d rfl (fun _ => ?_) (fun _ => ?_) | refine t_cond_i rfl (fun _ => ?_) (fun _ => ?_) | refine t_cond_j rfl (fun _ => ?_) (fun _ => ?_) | refine t_cond_s rfl (fun _ => ?_) (fun _ => ?_) | refine t_cond_n rfl (fun _ => ?_) (fun _ => ?_) | refine t_cond rfl (fun _ => ?_) (fun _ => ?_) | refine c_split_d rfl rfl (fun _ => ?_) (fun _ => ?_) | refine c_split_i rfl rfl (fun _ => ?_) (fun _ => ?_) | refine c_split_j rfl rfl (fun _ => ?_) (fun _ => ?_) | refine c_split_s rfl rfl (fun _ => ?_) (fun _ => ?_) | refine c_split_n rfl rfl (fun _ => ?_) (fun _ => ?_)) <;> try (first | (rename_i hz; exact Bool.noConfusion (show true = false from hz)) | (rename_i hz; exact Bool.noConfusion (show false = true from hz)) | (exfalso; omega)))
    | refine r_val rfl rfl (by (first | omega | exact Nat.le_of_ble_eq_true rfl | (simp only [wrap_u8, IntKind.wrap_i64, IntKind.wrap_i32, wrap_u32', wrap_u64', InI]; (repeat' refine And.intro ?_ ?_) <;> omega) | ((repeat' refine And.intro ?_ ?_) <;> first | omega | rfl | exact Nat.le_refl _ | exact Nat.le_of_ble_eq_true rfl | exact bytesF_one _) | (simp_all; done) | (simp_all; omega))) ?_ | refine r_gval rfl rfl rfl rfl (by (first | omega | exact Nat.le_of_ble_eq_true rfl | (simp only [wrap_u8, IntKind.wrap_i64, IntKind.wrap_i32, wrap_u32', wrap_u64', InI]; (repeat' refine And.intro ?_ ?_) <;> omega) | ((repeat' refine And.intro ?_ ?_) <;> first | omega | rfl | exact Nat.le_refl _ | exact Nat.le_of_ble_eq_true rfl | exact bytesF_one _) | (simp_all; done) | (simp_all; omega))) ?_
    | refine r_obj rfl rfl (by (first | omega | exact Nat.le_of_ble_eq_true rfl | (simp only [wrap_u8, IntKind.wrap_i64, IntKind.wrap_i32, wrap_u32', wrap_u64', InI]; (repeat' refine And.intro ?_ ?_) <;> omega) | ((repeat' refine And.intro ?_ ?_) <;> first | omega | rfl | exact Nat.le_refl _ | exact Nat.le_of_ble_eq_true rfl | exact bytesF_one _) | (simp_all; done) | (simp_all; omega))) ?_ | refine r_sto rfl (by (first | omega | exact Nat.le_of_ble_eq_true rfl | (simp only [wrap_u8, IntKind.wrap_i64, IntKind.wrap_i32, wrap_u32', wrap_u64', InI]; (repeat' refine And.intro ?_ ?_) <;> omega) | ((repeat' refine And.intro ?_ ?_) <;> first | omega | rfl | exact Nat.le_refl _ | exact Nat.le_of_ble_eq_true rfl | exact bytesF_one _) | (simp_all; done) | (simp_all; omega))) ?_ | refine r_gobj rfl rfl rfl rfl (by (first | omega | exact Nat.le_of_ble_eq_true rfl | (simp only [wrap_u8, IntKind.wrap_i64, IntKind.wrap_i32, wrap_u32', wrap_u64', InI]; (repeat' refine And.intro ?_ ?_) <;> omega) | ((repeat' refine And.intro ?_ ?_) <;> first | omega | rfl | exact Nat.le_refl _ | exact Nat.le_of_ble_eq_true rfl | exact bytesF_one _) | (simp_all; done) | (simp_all; omega))) ?_
    | refine e_hit rfl ?_ | refine e_miss rfl ?_
    | refine ⟨by kernel_rfl, ?_⟩ | refine x_end rfl ?_ | refine r_call (f := 51) rfl rfl Tryd.call51 rfl c1 ?_ | ((with_reducible refine c_grd ?_); (fail_if_success (refine c_lit true rfl rfl rfl ?_)); (fail_if_success (refine c_lit false rfl rfl rfl ?_)); refine c_split rfl rfl (fun _ => ?_) (fun _ => ?_)))
  all_goals rfl

/-! ### The reference's numbers: as values' keys -/
theorem whole_key (n : Int) (h0 : -9223372036854775808 ≤ n) (h1 : n ≤ 9223372036854775807) : ∃ b : Nat, b < 18446744073709551616 ∧ IntKind.u64.wrap n = (b : Int) ∧ keyF 4 [] (validL []) b = (Lib.itoa n, true) := by
  refine ⟨(n % 18446744073709551616).toNat, by omega, by rw [wrap_u64']; omega, ?_⟩
  rw [keyF_0 (by rw [show valR 4 (validL []) (n % 18446744073709551616).toNat = true from rfl]; decide) (by decide) (by decide) (by decide) (by decide) (by decide)]
  have : i64F (n % 18446744073709551616).toNat = n := by
    unfold i64F
    split <;> omega
  rw [this]

theorem rwhole_ctrR (n : Int) (h0 : -9223372036854775808 ≤ n) (h1 : n ≤ 9223372036854775807) : Ctr Tryd.prog 26 [.i .i64 n] (.s (Lib.itoa n)) := by
  obtain ⟨b, hb, he, hk⟩ := whole_key n h0 h1
  have c1 := rkey_ctr 4 [] (by simp) b hb
  rw [hk, ← he] at c1
  refine r_fun Tryd.func26 rfl Tryd.ntmps26 Tryd.results26 rfl rfl fun X hL hX => ?_
  repeat' (first
    | with_reducible refine t_seq ?_ | with_reducible refine t_region ?_ | with_reducible refine c_nil ?_ | with_reducible refine n_then ?_
    | with_reducible refine t_ret ?_ | with_reducible refine t_skip ?_ | with_reducible refine t_exit ?_ | with_reducible refine t_block ?_
    | with_reducible refine n_block ?_ | with_reducible refine e_then ?_ | with_reducible refine x_then ?_ | with_reducible refine x_block ?_ | with_reducible refine t_draw ?_
    | refine r_val rfl rfl True.intro ?_ | refine r_gskip rfl rfl rfl ?_ | refine r_gskip2 rfl rfl rfl ?_ | refine r_gval rfl rfl rfl rfl True.intro ?_
    | refine t_true rfl ?_ | refine t_false rfl ?_
    | ((first | refine t_cond_d rfl (fun _ => ?_) (fun _ => ?_) | refine t_cond_i rfl (fun _ => ?_) (fun _ => ?_) | refine t_cond_j rfl (fun _ => ?_) (fun _ => ?_) | refine t_cond_s rfl (fun _ => ?_) (fun _ => ?_) | refine t_cond_n rfl (fun _ => ?_) (fun _ => ?_) | refine t_cond rfl (fun _ => ?_) (fun _ => ?_) | refine c_split_d rfl rfl (fun _ => ?_) (fun _ => ?_) | refine c_split_i rfl rfl (fun _ => ?_) (fun _ => ?_) | refine c_split_j rfl rfl (fun _ => ?_) (fun _ => ?_) | refine c_split_s rfl rfl (fun _ => ?_) (fun _ => ?_) | refine c_split_n rfl rfl (fun _ => ?_) (fun _ => ?_)) <;> try (first | (rename_i hz; exact Bool.noConfusion (show true = false from hz)) | (rename_i hz; exact Bool.noConfusion (show false = true from hz)) | (exfalso; omega)))
    | refine r_val rfl rfl (by (first | omega | exact Nat.le_of_ble_eq_true rfl | (simp only [wrap_u8, IntKind.wrap_i64, IntKind.wrap_i32, wrap_u32', wrap_u64', InI]; (repeat' refine And.intro ?_ ?_) <;> omega) | ((repeat' refine And.intro ?_ ?_) <;> first | omega | rfl | exact Nat.le_refl _ | exact Nat.le_of_ble_eq_true rfl | exact bytesF_one _) | (simp_all; done) | (simp_all; omega))) ?_ | refine r_gval rfl rfl rfl rfl (by (first | omega | exact Nat.le_of_ble_eq_true rfl | (simp only [wrap_u8, IntKind.wrap_i64, IntKind.wrap_i32, wrap_u32', wrap_u64', InI]; (repeat' refine And.intro ?_ ?_) <;> omega) | ((repeat' refine And.intro ?_ ?_) <;> first | omega | rfl | exact Nat.le_refl _ | exact Nat.le_of_ble_eq_true rfl | exact bytesF_one _) | (simp_all; done) | (simp_all; omega))) ?_
    | refine r_obj rfl rfl (by (first | omega | exact Nat.le_of_ble_eq_true rfl | (simp only [wrap_u8, IntKind.wrap_i64, IntKind.wrap_i32, wrap_u32', wrap_u64', InI]; (repeat' refine And.intro ?_ ?_) <;> omega) | ((repeat' refine And.intro ?_ ?_) <;> first | omega | rfl | exact Nat.le_refl _ | exact Nat.le_of_ble_eq_true rfl | exact bytesF_one _) | (simp_all; done) | (simp_all; omega))) ?_ | refine r_sto rfl (by (first | omega | exact Nat.le_of_ble_eq_true rfl | (simp only [wrap_u8, IntKind.wrap_i64, IntKind.wrap_i32, wrap_u32', wrap_u64', InI]; (repeat' refine And.intro ?_ ?_) <;> omega) | ((repeat' refine And.intro ?_ ?_) <;> first | omega | rfl | exact Nat.le_refl _ | exact Nat.le_of_ble_eq_true rfl | exact bytesF_one _) | (simp_all; done) | (simp_all; omega))) ?_ | refine r_gobj rfl rfl rfl rfl (by (first | omega | exact Nat.le_of_ble_eq_true rfl | (simp only [wrap_u8, IntKind.wrap_i64, IntKind.wrap_i32, wrap_u32', wrap_u64', InI]; (repeat' refine And.intro ?_ ?_) <;> omega) | ((repeat' refine And.intro ?_ ?_) <;> first | omega | rfl | exact Nat.le_refl _ | exact Nat.le_of_ble_eq_true rfl | exact bytesF_one _) | (simp_all; done) | (simp_all; omega))) ?_
    | refine e_hit rfl ?_ | refine e_miss rfl ?_
    | refine ⟨by kernel_rfl, ?_⟩ | refine x_end rfl ?_ | refine r_call (f := 36) rfl rfl Tryd.call36 rfl c1 ?_ | ((with_reducible refine c_grd ?_); (fail_if_success (refine c_lit true rfl rfl rfl ?_)); (fail_if_success (refine c_lit false rfl rfl rfl ?_)); refine c_split rfl rfl (fun _ => ?_) (fun _ => ?_)))
  all_goals rfl

theorem rbig_ctrR (n : Nat) (h1 : n < 18446744073709551616) : Ctr Tryd.prog 43 [.i .u64 (n : Nat)] (.s (Lib.decDigits n)) := by
  have c1 := rkey_ctr 5 [] (by simp) n h1
  rw [keyF_5 (by rw [show valR 5 (validL []) n = true from rfl]; decide)] at c1
  refine r_fun Tryd.func43 rfl Tryd.ntmps43 Tryd.results43 rfl rfl fun X hL hX => ?_
  repeat' (first
    | with_reducible refine t_seq ?_ | with_reducible refine t_region ?_ | with_reducible refine c_nil ?_ | with_reducible refine n_then ?_
    | with_reducible refine t_ret ?_ | with_reducible refine t_skip ?_ | with_reducible refine t_exit ?_ | with_reducible refine t_block ?_
    | with_reducible refine n_block ?_ | with_reducible refine e_then ?_ | with_reducible refine x_then ?_ | with_reducible refine x_block ?_ | with_reducible refine t_draw ?_
    | refine r_val rfl rfl True.intro ?_ | refine r_gskip rfl rfl rfl ?_ | refine r_gskip2 rfl rfl rfl ?_ | refine r_gval rfl rfl rfl rfl True.intro ?_
    | refine t_true rfl ?_ | refine t_false rfl ?_
    | ((first | refine t_cond_d rfl (fun _ => ?_) (fun _ => ?_) | refine t_cond_i rfl (fun _ => ?_) (fun _ => ?_) | refine t_cond_j rfl (fun _ => ?_) (fun _ => ?_) | refine t_cond_s rfl (fun _ => ?_) (fun _ => ?_) | refine t_cond_n rfl (fun _ => ?_) (fun _ => ?_) | refine t_cond rfl (fun _ => ?_) (fun _ => ?_) | refine c_split_d rfl rfl (fun _ => ?_) (fun _ => ?_) | refine c_split_i rfl rfl (fun _ => ?_) (fun _ => ?_) | refine c_split_j rfl rfl (fun _ => ?_) (fun _ => ?_) | refine c_split_s rfl rfl (fun _ => ?_) (fun _ => ?_) | refine c_split_n rfl rfl (fun _ => ?_) (fun _ => ?_)) <;> try (first | (rename_i hz; exact Bool.noConfusion (show true = false from hz)) | (rename_i hz; exact Bool.noConfusion (show false = true from hz)) | (exfalso; omega)))
    | refine r_val rfl rfl (by (first | omega | exact Nat.le_of_ble_eq_true rfl | (simp only [wrap_u8, IntKind.wrap_i64, IntKind.wrap_i32, wrap_u32', wrap_u64', InI]; (repeat' refine And.intro ?_ ?_) <;> omega) | ((repeat' refine And.intro ?_ ?_) <;> first | omega | rfl | exact Nat.le_refl _ | exact Nat.le_of_ble_eq_true rfl | exact bytesF_one _) | (simp_all; done) | (simp_all; omega))) ?_ | refine r_gval rfl rfl rfl rfl (by (first | omega | exact Nat.le_of_ble_eq_true rfl | (simp only [wrap_u8, IntKind.wrap_i64, IntKind.wrap_i32, wrap_u32', wrap_u64', InI]; (repeat' refine And.intro ?_ ?_) <;> omega) | ((repeat' refine And.intro ?_ ?_) <;> first | omega | rfl | exact Nat.le_refl _ | exact Nat.le_of_ble_eq_true rfl | exact bytesF_one _) | (simp_all; done) | (simp_all; omega))) ?_
    | refine r_obj rfl rfl (by (first | omega | exact Nat.le_of_ble_eq_true rfl | (simp only [wrap_u8, IntKind.wrap_i64, IntKind.wrap_i32, wrap_u32', wrap_u64', InI]; (repeat' refine And.intro ?_ ?_) <;> omega) | ((repeat' refine And.intro ?_ ?_) <;> first | omega | rfl | exact Nat.le_refl _ | exact Nat.le_of_ble_eq_true rfl | exact bytesF_one _) | (simp_all; done) | (simp_all; omega))) ?_ | refine r_sto rfl (by (first | omega | exact Nat.le_of_ble_eq_true rfl | (simp only [wrap_u8, IntKind.wrap_i64, IntKind.wrap_i32, wrap_u32', wrap_u64', InI]; (repeat' refine And.intro ?_ ?_) <;> omega) | ((repeat' refine And.intro ?_ ?_) <;> first | omega | rfl | exact Nat.le_refl _ | exact Nat.le_of_ble_eq_true rfl | exact bytesF_one _) | (simp_all; done) | (simp_all; omega))) ?_ | refine r_gobj rfl rfl rfl rfl (by (first | omega | exact Nat.le_of_ble_eq_true rfl | (simp only [wrap_u8, IntKind.wrap_i64, IntKind.wrap_i32, wrap_u32', wrap_u64', InI]; (repeat' refine And.intro ?_ ?_) <;> omega) | ((repeat' refine And.intro ?_ ?_) <;> first | omega | rfl | exact Nat.le_refl _ | exact Nat.le_of_ble_eq_true rfl | exact bytesF_one _) | (simp_all; done) | (simp_all; omega))) ?_
    | refine e_hit rfl ?_ | refine e_miss rfl ?_
    | refine ⟨by kernel_rfl, ?_⟩ | refine x_end rfl ?_ | refine r_call (f := 36) rfl rfl Tryd.call36 rfl c1 ?_ | ((with_reducible refine c_grd ?_); (fail_if_success (refine c_lit true rfl rfl rfl ?_)); (fail_if_success (refine c_lit false rfl rfl rfl ?_)); refine c_split rfl rfl (fun _ => ?_) (fun _ => ?_)))
  all_goals rfl

/-! ### Places -/
abbrev I64 (n : Int) : Prop := -9223372036854775808 ≤ n ∧ n ≤ 9223372036854775807

theorem chunk_tx (xs : List (List UInt8)) : ∀ i, i < xs.length → chunk 1 (xs.map D.s) i = [.s (xs.getD i [])] := fun i hi => by
  unfold chunk
  rw [Nat.mul_one, List.drop_eq_getElem_cons (by simpa using hi)]
  simp [List.getD_eq_getElem?_getD, hi]

set_option maxHeartbeats 2000000 in
theorem place_ctrR (z x y : Int) (hz : I64 z) (hx : I64 x) (hy : I64 y) : Ctr Tryd.prog 7 [.ag [.i .i64 z, .i .i64 x, .i .i64 y]] (.s (placeT z x y)) := by
  have c1 := rnum_ctrR z hz.1 hz.2
  have c2 := rnum_ctrR x hx.1 hx.2
  have c3 := rnum_ctrR y hy.1 hy.2
  have l1 := itoa_lenI z hz.1 hz.2
  have l2 := itoa_lenI x hx.1 hx.2
  have l3 := itoa_lenI y hy.1 hy.2
  have c4 := rtext_ctrR [Lib.itoa z, [47], Lib.itoa x, [47], Lib.itoa y] 5 (chunk 1 ([Lib.itoa z, [47], Lib.itoa x, [47], Lib.itoa y].map D.s)) rfl (chunk_tx _) (by simp) (by simp only [List.flatten_cons, List.flatten_nil, List.length_append, List.length_cons, List.length_nil]; omega)
  have e : placeT z x y = [Lib.itoa z, [47], Lib.itoa x, [47], Lib.itoa y].flatten := rfl
  rw [e]
  generalize [Lib.itoa z, [47], Lib.itoa x, [47], Lib.itoa y].flatten = R at *
  generalize Lib.itoa z = a1 at *
  generalize Lib.itoa x = a2 at *
  generalize Lib.itoa y = a3 at *
  refine r_fun Tryd.func7 rfl Tryd.ntmps7 Tryd.results7 rfl rfl fun X hL hX => ?_
  repeat' (first
    | with_reducible refine t_seq ?_ | with_reducible refine t_region ?_ | with_reducible refine c_nil ?_ | with_reducible refine n_then ?_
    | with_reducible refine t_ret ?_ | with_reducible refine t_skip ?_ | with_reducible refine t_exit ?_ | with_reducible refine t_block ?_
    | with_reducible refine n_block ?_ | with_reducible refine e_then ?_ | with_reducible refine x_then ?_ | with_reducible refine x_block ?_ | with_reducible refine t_draw ?_
    | refine r_val rfl rfl True.intro ?_ | refine r_gskip rfl rfl rfl ?_ | refine r_gskip2 rfl rfl rfl ?_ | refine r_gval rfl rfl rfl rfl True.intro ?_
    | refine t_true rfl ?_ | refine t_false rfl ?_
    | ((first | refine t_cond_d rfl (fun _ => ?_) (fun _ => ?_) | refine t_cond_i rfl (fun _ => ?_) (fun _ => ?_) | refine t_cond_j rfl (fun _ => ?_) (fun _ => ?_) | refine t_cond_s rfl (fun _ => ?_) (fun _ => ?_) | refine t_cond_n rfl (fun _ => ?_) (fun _ => ?_) | refine t_cond rfl (fun _ => ?_) (fun _ => ?_) | refine c_split_d rfl rfl (fun _ => ?_) (fun _ => ?_) | refine c_split_i rfl rfl (fun _ => ?_) (fun _ => ?_) | refine c_split_j rfl rfl (fun _ => ?_) (fun _ => ?_) | refine c_split_s rfl rfl (fun _ => ?_) (fun _ => ?_) | refine c_split_n rfl rfl (fun _ => ?_) (fun _ => ?_)) <;> try (first | (rename_i hz; exact Bool.noConfusion (show true = false from hz)) | (rename_i hz; exact Bool.noConfusion (show false = true from hz)) | (exfalso; omega)))
    | refine r_val rfl rfl (by (first | omega | exact Nat.le_of_ble_eq_true rfl | (simp only [wrap_u8, IntKind.wrap_i64, IntKind.wrap_i32, wrap_u32', wrap_u64', InI]; (repeat' refine And.intro ?_ ?_) <;> omega) | ((repeat' refine And.intro ?_ ?_) <;> first | omega | rfl | exact Nat.le_refl _ | exact Nat.le_of_ble_eq_true rfl | exact bytesF_one _) | (simp_all; done) | (simp_all; omega))) ?_ | refine r_gval rfl rfl rfl rfl (by (first | omega | exact Nat.le_of_ble_eq_true rfl | (simp only [wrap_u8, IntKind.wrap_i64, IntKind.wrap_i32, wrap_u32', wrap_u64', InI]; (repeat' refine And.intro ?_ ?_) <;> omega) | ((repeat' refine And.intro ?_ ?_) <;> first | omega | rfl | exact Nat.le_refl _ | exact Nat.le_of_ble_eq_true rfl | exact bytesF_one _) | (simp_all; done) | (simp_all; omega))) ?_
    | refine r_obj rfl rfl (by (first | omega | exact Nat.le_of_ble_eq_true rfl | (simp only [wrap_u8, IntKind.wrap_i64, IntKind.wrap_i32, wrap_u32', wrap_u64', InI]; (repeat' refine And.intro ?_ ?_) <;> omega) | ((repeat' refine And.intro ?_ ?_) <;> first | omega | rfl | exact Nat.le_refl _ | exact Nat.le_of_ble_eq_true rfl | exact bytesF_one _) | (simp_all; done) | (simp_all; omega))) ?_ | refine r_sto rfl (by (first | omega | exact Nat.le_of_ble_eq_true rfl | (simp only [wrap_u8, IntKind.wrap_i64, IntKind.wrap_i32, wrap_u32', wrap_u64', InI]; (repeat' refine And.intro ?_ ?_) <;> omega) | ((repeat' refine And.intro ?_ ?_) <;> first | omega | rfl | exact Nat.le_refl _ | exact Nat.le_of_ble_eq_true rfl | exact bytesF_one _) | (simp_all; done) | (simp_all; omega))) ?_ | refine r_gobj rfl rfl rfl rfl (by (first | omega | exact Nat.le_of_ble_eq_true rfl | (simp only [wrap_u8, IntKind.wrap_i64, IntKind.wrap_i32, wrap_u32', wrap_u64', InI]; (repeat' refine And.intro ?_ ?_) <;> omega) | ((repeat' refine And.intro ?_ ?_) <;> first | omega | rfl | exact Nat.le_refl _ | exact Nat.le_of_ble_eq_true rfl | exact bytesF_one _) | (simp_all; done) | (simp_all; omega))) ?_
    | refine e_hit rfl ?_ | refine e_miss rfl ?_
    | refine ⟨by kernel_rfl, ?_⟩ | refine x_end rfl ?_ | refine r_call (f := 25) rfl rfl Tryd.call25 rfl c1 ?_ | refine r_call (f := 25) rfl rfl Tryd.call25 rfl c2 ?_ | refine r_call (f := 25) rfl rfl Tryd.call25 rfl c3 ?_ | refine r_call (f := 24) rfl rfl Tryd.call24 rfl c4 ?_ | ((with_reducible refine c_grd ?_); (fail_if_success (refine c_lit true rfl rfl rfl ?_)); (fail_if_success (refine c_lit false rfl rfl rfl ?_)); refine c_split rfl rfl (fun _ => ?_) (fun _ => ?_)))
  all_goals rfl

/-! ### Points -/
def ptF (l : List (Int × Int)) : Nat → List D := fun i => [.i .i64 (l.getD i (0, 0)).1, .i .i64 (l.getD i (0, 0)).2]
def ptsOk (l : List (Int × Int)) : Prop := l.length ≤ 1048576 ∧ ∀ i, i < l.length → I64 (l.getD i (0, 0)).1 ∧ I64 (l.getD i (0, 0)).2

theorem pts_take {l : List (Int × Int)} {i : Nat} (h : i < l.length) : (l.map ptT).take (i + 1) = (l.map ptT).take i ++ [ptT (l.getD i (0, 0))] := by
  rw [List.take_add_one]
  simp [List.getElem?_map, List.getD_eq_getElem?_getD, h]

theorem join_len_le (sep : List UInt8) (m : Nat) : ∀ xs : List (List UInt8), (∀ x ∈ xs, x.length ≤ m) → (Lib.join xs sep).length ≤ xs.length * (m + sep.length)
  | [], _ => by simp [Lib.join_nil]
  | x :: xs, h => by
    rw [Lib.join_length, Nat.add_comm, List.length_cons, Nat.succ_mul]
    have h1 : Lib.lens (x :: xs) ≤ xs.length * m + m := by
      unfold Lib.lens
      have : ∀ ys : List (List UInt8), (∀ y ∈ ys, y.length ≤ m) → (ys.map (·.length)).sum ≤ ys.length * m := by
        intro ys
        induction ys with
        | nil => simp
        | cons y ys ih =>
          intro hy
          have := ih fun z hz => hy z (by simp [hz])
          have := hy y (by simp)
          simp only [List.map_cons, List.sum_cons, List.length_cons, Nat.succ_mul]
          omega
      have := this (x :: xs) h
      simpa [Nat.succ_mul] using this
    rw [Nat.mul_add, Nat.mul_comm sep.length]
    omega

theorem pathT_len {l : List (Int × Int)} (h : ptsOk l) : (pathT l).length ≤ l.length * 44 := by
  unfold pathT
  have := join_len_le [32] 43 (l.map ptT) fun x hx => by
    obtain ⟨p, hp, rfl⟩ := List.mem_map.1 hx
    obtain ⟨i, hi, rfl⟩ := List.getElem_of_mem hp
    have := h.2 i hi
    rw [List.getD_eq_getElem?_getD, List.getElem?_eq_getElem hi, Option.getD_some] at this
    exact ptT_len this.1 this.2
  simpa using this

set_option maxHeartbeats 1000000 in
theorem path_ctrR (l : List (Int × Int)) (hl : ptsOk l) : Ctr Tryd.prog 9 [.sl 2 l.length (ptF l)] (.s (pathT l)) := by
  obtain ⟨hl1, hl2⟩ := hl
  have hlen := pathT_len ⟨hl1, hl2⟩
  refine r_fun Tryd.func9 rfl Tryd.ntmps9 Tryd.results9 rfl rfl fun X hL hX => ?_
  repeat' (first
    | with_reducible refine t_seq ?_ | with_reducible refine t_region ?_ | with_reducible refine c_nil ?_ | with_reducible refine n_then ?_
    | with_reducible refine t_ret ?_ | with_reducible refine t_skip ?_ | with_reducible refine t_exit ?_ | with_reducible refine t_block ?_
    | with_reducible refine n_block ?_ | with_reducible refine e_then ?_ | with_reducible refine x_then ?_ | with_reducible refine x_block ?_ | with_reducible refine t_draw ?_
    | refine r_val rfl rfl True.intro ?_ | refine r_gskip rfl rfl rfl ?_ | refine r_gskip2 rfl rfl rfl ?_ | refine r_gval rfl rfl rfl rfl True.intro ?_
    | refine t_true rfl ?_ | refine t_false rfl ?_
    | ((first | refine t_cond_d rfl (fun _ => ?_) (fun _ => ?_) | refine t_cond_i rfl (fun _ => ?_) (fun _ => ?_) | refine t_cond_j rfl (fun _ => ?_) (fun _ => ?_) | refine t_cond_s rfl (fun _ => ?_) (fun _ => ?_) | refine t_cond_n rfl (fun _ => ?_) (fun _ => ?_) | refine t_cond rfl (fun _ => ?_) (fun _ => ?_) | refine c_split_d rfl rfl (fun _ => ?_) (fun _ => ?_) | refine c_split_i rfl rfl (fun _ => ?_) (fun _ => ?_) | refine c_split_j rfl rfl (fun _ => ?_) (fun _ => ?_) | refine c_split_s rfl rfl (fun _ => ?_) (fun _ => ?_) | refine c_split_n rfl rfl (fun _ => ?_) (fun _ => ?_)) <;> try (first | (rename_i hz; exact Bool.noConfusion (show true = false from hz)) | (rename_i hz; exact Bool.noConfusion (show false = true from hz)) | (exfalso; omega)))
    | refine r_val rfl rfl (by (first | omega | exact Nat.le_of_ble_eq_true rfl | (simp only [wrap_u8, IntKind.wrap_i64, IntKind.wrap_i32, wrap_u32', wrap_u64', InI]; (repeat' refine And.intro ?_ ?_) <;> omega) | ((repeat' refine And.intro ?_ ?_) <;> first | omega | rfl | exact Nat.le_refl _ | exact Nat.le_of_ble_eq_true rfl | exact bytesF_one _) | (simp_all; done) | (simp_all; omega))) ?_ | refine r_gval rfl rfl rfl rfl (by (first | omega | exact Nat.le_of_ble_eq_true rfl | (simp only [wrap_u8, IntKind.wrap_i64, IntKind.wrap_i32, wrap_u32', wrap_u64', InI]; (repeat' refine And.intro ?_ ?_) <;> omega) | ((repeat' refine And.intro ?_ ?_) <;> first | omega | rfl | exact Nat.le_refl _ | exact Nat.le_of_ble_eq_true rfl | exact bytesF_one _) | (simp_all; done) | (simp_all; omega))) ?_
    | refine r_obj rfl rfl (by (first | omega | exact Nat.le_of_ble_eq_true rfl | (simp only [wrap_u8, IntKind.wrap_i64, IntKind.wrap_i32, wrap_u32', wrap_u64', InI]; (repeat' refine And.intro ?_ ?_) <;> omega) | ((repeat' refine And.intro ?_ ?_) <;> first | omega | rfl | exact Nat.le_refl _ | exact Nat.le_of_ble_eq_true rfl | exact bytesF_one _) | (simp_all; done) | (simp_all; omega))) ?_ | refine r_sto rfl (by (first | omega | exact Nat.le_of_ble_eq_true rfl | (simp only [wrap_u8, IntKind.wrap_i64, IntKind.wrap_i32, wrap_u32', wrap_u64', InI]; (repeat' refine And.intro ?_ ?_) <;> omega) | ((repeat' refine And.intro ?_ ?_) <;> first | omega | rfl | exact Nat.le_refl _ | exact Nat.le_of_ble_eq_true rfl | exact bytesF_one _) | (simp_all; done) | (simp_all; omega))) ?_ | refine r_gobj rfl rfl rfl rfl (by (first | omega | exact Nat.le_of_ble_eq_true rfl | (simp only [wrap_u8, IntKind.wrap_i64, IntKind.wrap_i32, wrap_u32', wrap_u64', InI]; (repeat' refine And.intro ?_ ?_) <;> omega) | ((repeat' refine And.intro ?_ ?_) <;> first | omega | rfl | exact Nat.le_refl _ | exact Nat.le_of_ble_eq_true rfl | exact bytesF_one _) | (simp_all; done) | (simp_all; omega))) ?_
    | refine e_hit rfl ?_ | refine e_miss rfl ?_
    | refine ⟨by kernel_rfl, ?_⟩ | refine x_end rfl ?_ | ((with_reducible refine c_grd ?_); (fail_if_success (refine c_lit true rfl rfl rfl ?_)); (fail_if_success (refine c_lit false rfl rfl rfl ?_)); refine c_split rfl rfl (fun _ => ?_) (fun _ => ?_)))
  refine T.adopt 3 100 9 1 (txF []) rfl rfl ?_
  refine T.loop hL (fun i : Nat => [(3, .gs 100 1 i (txF ((l.map ptT).take i))), (6, .sl 2 l.length (ptF l)), (7, .i .i64 l.length), (8, .i .i64 i)]) (fun i => [(100, .row 9 1 i)]) (fun i => i ≤ l.length) (fun i => l.length - i) 0
    (Nat.zero_le _) ⟨⟨rfl, rfl, rfl, rfl, trivial⟩, ⟨rfl, trivial⟩, rfl, by rw [hX]; intro k hk; cases hk⟩ ?_
  intro i g1
  by_cases hi : i < l.length
  · obtain ⟨b1, b2⟩ := hl2 i hi
    have c1 := rnum_ctrR _ b1.1 b1.2
    have c2 := rnum_ctrR _ b2.1 b2.2
    have l1 := itoa_lenI _ b1.1 b1.2
    have l2 := itoa_lenI _ b2.1 b2.2
    have c4 := rtext_ctrR [Lib.itoa (l.getD i (0, 0)).1, [44], Lib.itoa (l.getD i (0, 0)).2] 3 (chunk 1 ([Lib.itoa (l.getD i (0, 0)).1, [44], Lib.itoa (l.getD i (0, 0)).2].map D.s)) rfl (chunk_tx _) (by simp) (by simp only [List.flatten_cons, List.flatten_nil, List.length_append, List.length_cons, List.length_nil]; omega)
    have e := gs_snoc 100 i ((l.map ptT).take i) ((l.map ptT).take (i + 1)) (ptT (l.getD i (0, 0))) (chunk 1 [.s (ptT (l.getD i (0, 0)))]) (by simp; omega) rfl (pts_take hi)
    have e2 : ((l.map ptT).take (i + 1)).length = i + 1 := by simp; omega
    rw [e2] at e
    have e3 : ptT (l.getD i (0, 0)) = [Lib.itoa (l.getD i (0, 0)).1, [44], Lib.itoa (l.getD i (0, 0)).2].flatten := rfl
    rw [← e3] at c4
    generalize ptT (l.getD i (0, 0)) = R at *
    repeat' (first
      | with_reducible refine t_seq ?_ | with_reducible refine t_region ?_ | with_reducible refine c_nil ?_ | with_reducible refine n_then ?_
      | with_reducible refine t_ret ?_ | with_reducible refine t_skip ?_ | with_reducible refine t_exit ?_ | with_reducible refine t_block ?_
      | with_reducible refine n_block ?_ | with_reducible refine e_then ?_ | with_reducible refine x_then ?_ | with_reducible refine x_block ?_ | with_reducible refine t_draw ?_
      | refine r_val rfl rfl True.intro ?_ | refine r_gskip rfl rfl rfl ?_ | refine r_gskip2 rfl rfl rfl ?_ | refine r_gval rfl rfl rfl rfl True.intro ?_
      | refine t_true rfl ?_ | refine t_false rfl ?_
      | ((first | refine t_cond_d rfl (fun _ => ?_) (fun _ => ?_) | refine t_cond_i rfl (fun _ => ?_) (fun _ => ?_) | refine t_cond_j rfl (fun _ => ?_) (fun _ => ?_) | refine t_cond_s rfl (fun _ => ?_) (fun _ => ?_) | refine t_cond_n rfl (fun _ => ?_) (fun _ => ?_) | refine t_cond rfl (fun _ => ?_) (fun _ => ?_) | refine c_split_d rfl rfl (fun _ => ?_) (fun _ => ?_) | refine c_split_i rfl rfl (fun _ => ?_) (fun _ => ?_) | refine c_split_j rfl rfl (fun _ => ?_) (fun _ => ?_) | refine c_split_s rfl rfl (fun _ => ?_) (fun _ => ?_) | refine c_split_n rfl rfl (fun _ => ?_) (fun _ => ?_)) <;> try (first | (rename_i hz; exact Bool.noConfusion (show true = false from hz)) | (rename_i hz; exact Bool.noConfusion (show false = true from hz)) | (exfalso; omega)))
      | refine r_val rfl rfl (by (first | omega | exact Nat.le_of_ble_eq_true rfl | (simp only [wrap_u8, IntKind.wrap_i64, IntKind.wrap_i32, wrap_u32', wrap_u64', InI]; (repeat' refine And.intro ?_ ?_) <;> omega) | ((repeat' refine And.intro ?_ ?_) <;> first | omega | rfl | exact Nat.le_refl _ | exact Nat.le_of_ble_eq_true rfl | exact bytesF_one _) | (simp_all; done) | (simp_all; omega))) ?_ | refine r_gval rfl rfl rfl rfl (by (first | omega | exact Nat.le_of_ble_eq_true rfl | (simp only [wrap_u8, IntKind.wrap_i64, IntKind.wrap_i32, wrap_u32', wrap_u64', InI]; (repeat' refine And.intro ?_ ?_) <;> omega) | ((repeat' refine And.intro ?_ ?_) <;> first | omega | rfl | exact Nat.le_refl _ | exact Nat.le_of_ble_eq_true rfl | exact bytesF_one _) | (simp_all; done) | (simp_all; omega))) ?_
      | refine r_obj rfl rfl (by (first | omega | exact Nat.le_of_ble_eq_true rfl | (simp only [wrap_u8, IntKind.wrap_i64, IntKind.wrap_i32, wrap_u32', wrap_u64', InI]; (repeat' refine And.intro ?_ ?_) <;> omega) | ((repeat' refine And.intro ?_ ?_) <;> first | omega | rfl | exact Nat.le_refl _ | exact Nat.le_of_ble_eq_true rfl | exact bytesF_one _) | (simp_all; done) | (simp_all; omega))) ?_ | refine r_sto rfl (by (first | omega | exact Nat.le_of_ble_eq_true rfl | (simp only [wrap_u8, IntKind.wrap_i64, IntKind.wrap_i32, wrap_u32', wrap_u64', InI]; (repeat' refine And.intro ?_ ?_) <;> omega) | ((repeat' refine And.intro ?_ ?_) <;> first | omega | rfl | exact Nat.le_refl _ | exact Nat.le_of_ble_eq_true rfl | exact bytesF_one _) | (simp_all; done) | (simp_all; omega))) ?_ | refine r_gobj rfl rfl rfl rfl (by (first | omega | exact Nat.le_of_ble_eq_true rfl | (simp only [wrap_u8, IntKind.wrap_i64, IntKind.wrap_i32, wrap_u32', wrap_u64', InI]; (repeat' refine And.intro ?_ ?_) <;> omega) | ((repeat' refine And.intro ?_ ?_) <;> first | omega | rfl | exact Nat.le_refl _ | exact Nat.le_of_ble_eq_true rfl | exact bytesF_one _) | (simp_all; done) | (simp_all; omega))) ?_
      | refine e_hit rfl ?_ | refine e_miss rfl ?_
      | refine ⟨by kernel_rfl, ?_⟩ | refine x_end rfl ?_ | refine r_call (f := 25) rfl rfl Tryd.call25 rfl c1 ?_ | refine r_call (f := 25) rfl rfl Tryd.call25 rfl c2 ?_ | refine r_call (f := 24) rfl rfl Tryd.call24 rfl c4 ?_ | ((with_reducible refine c_grd ?_); (fail_if_success (refine c_lit true rfl rfl rfl ?_)); (fail_if_success (refine c_lit false rfl rfl rfl ?_)); refine c_split rfl rfl (fun _ => ?_) (fun _ => ?_)))
    all_goals exact ⟨i + 1, by omega, by omega, ⟨e, rfl, rfl, rfl, trivial⟩, ⟨rfl, trivial⟩, rfl, by rw [hX]; intro k hk; cases hk⟩
  · obtain rfl : i = l.length := by omega
    have c5 := join_ctr ((l.map ptT).take l.length) l.length (txF ((l.map ptT).take l.length)) [32] (by simp) (fun j _ => rfl) (by simp; omega) (by rw [List.take_of_length_le (by simp)]; unfold pathT at hlen; omega)
    have e : Lib.join ((l.map ptT).take l.length) [32] = pathT l := by rw [List.take_of_length_le (by simp)]; rfl
    rw [e] at c5
    repeat' (first
      | with_reducible refine t_seq ?_ | with_reducible refine t_region ?_ | with_reducible refine c_nil ?_ | with_reducible refine n_then ?_
      | with_reducible refine t_ret ?_ | with_reducible refine t_skip ?_ | with_reducible refine t_exit ?_ | with_reducible refine t_block ?_
      | with_reducible refine n_block ?_ | with_reducible refine e_then ?_ | with_reducible refine x_then ?_ | with_reducible refine x_block ?_ | with_reducible refine t_draw ?_
      | refine r_val rfl rfl True.intro ?_ | refine r_gskip rfl rfl rfl ?_ | refine r_gskip2 rfl rfl rfl ?_ | refine r_gval rfl rfl rfl rfl True.intro ?_
      | refine t_true rfl ?_ | refine t_false rfl ?_
      | ((first | refine t_cond_d rfl (fun _ => ?_) (fun _ => ?_) | refine t_cond_i rfl (fun _ => ?_) (fun _ => ?_) | refine t_cond_j rfl (fun _ => ?_) (fun _ => ?_) | refine t_cond_s rfl (fun _ => ?_) (fun _ => ?_) | refine t_cond_n rfl (fun _ => ?_) (fun _ => ?_) | refine t_cond rfl (fun _ => ?_) (fun _ => ?_) | refine c_split_d rfl rfl (fun _ => ?_) (fun _ => ?_) | refine c_split_i rfl rfl (fun _ => ?_) (fun _ => ?_) | refine c_split_j rfl rfl (fun _ => ?_) (fun _ => ?_) | refine c_split_s rfl rfl (fun _ => ?_) (fun _ => ?_) | refine c_split_n rfl rfl (fun _ => ?_) (fun _ => ?_)) <;> try (first | (rename_i hz; exact Bool.noConfusion (show true = false from hz)) | (rename_i hz; exact Bool.noConfusion (show false = true from hz)) | (exfalso; omega)))
      | refine r_val rfl rfl (by (first | omega | exact Nat.le_of_ble_eq_true rfl | (simp only [wrap_u8, IntKind.wrap_i64, IntKind.wrap_i32, wrap_u32', wrap_u64', InI]; (repeat' refine And.intro ?_ ?_) <;> omega) | ((repeat' refine And.intro ?_ ?_) <;> first | omega | rfl | exact Nat.le_refl _ | exact Nat.le_of_ble_eq_true rfl | exact bytesF_one _) | (simp_all; done) | (simp_all; omega))) ?_ | refine r_gval rfl rfl rfl rfl (by (first | omega | exact Nat.le_of_ble_eq_true rfl | (simp only [wrap_u8, IntKind.wrap_i64, IntKind.wrap_i32, wrap_u32', wrap_u64', InI]; (repeat' refine And.intro ?_ ?_) <;> omega) | ((repeat' refine And.intro ?_ ?_) <;> first | omega | rfl | exact Nat.le_refl _ | exact Nat.le_of_ble_eq_true rfl | exact bytesF_one _) | (simp_all; done) | (simp_all; omega))) ?_
      | refine r_obj rfl rfl (by (first | omega | exact Nat.le_of_ble_eq_true rfl | (simp only [wrap_u8, IntKind.wrap_i64, IntKind.wrap_i32, wrap_u32', wrap_u64', InI]; (repeat' refine And.intro ?_ ?_) <;> omega) | ((repeat' refine And.intro ?_ ?_) <;> first | omega | rfl | exact Nat.le_refl _ | exact Nat.le_of_ble_eq_true rfl | exact bytesF_one _) | (simp_all; done) | (simp_all; omega))) ?_ | refine r_sto rfl (by (first | omega | exact Nat.le_of_ble_eq_true rfl | (simp only [wrap_u8, IntKind.wrap_i64, IntKind.wrap_i32, wrap_u32', wrap_u64', InI]; (repeat' refine And.intro ?_ ?_) <;> omega) | ((repeat' refine And.intro ?_ ?_) <;> first | omega | rfl | exact Nat.le_refl _ | exact Nat.le_of_ble_eq_true rfl | exact bytesF_one _) | (simp_all; done) | (simp_all; omega))) ?_ | refine r_gobj rfl rfl rfl rfl (by (first | omega | exact Nat.le_of_ble_eq_true rfl | (simp only [wrap_u8, IntKind.wrap_i64, IntKind.wrap_i32, wrap_u32', wrap_u64', InI]; (repeat' refine And.intro ?_ ?_) <;> omega) | ((repeat' refine And.intro ?_ ?_) <;> first | omega | rfl | exact Nat.le_refl _ | exact Nat.le_of_ble_eq_true rfl | exact bytesF_one _) | (simp_all; done) | (simp_all; omega))) ?_
      | refine e_hit rfl ?_ | refine e_miss rfl ?_
      | refine ⟨by kernel_rfl, ?_⟩ | refine x_end rfl ?_ | refine r_call (f := 27) rfl rfl Tryd.call27 rfl c5 ?_ | ((with_reducible refine c_grd ?_); (fail_if_success (refine c_lit true rfl rfl rfl ?_)); (fail_if_success (refine c_lit false rfl rfl rfl ?_)); refine c_split rfl rfl (fun _ => ?_) (fun _ => ?_)))
    all_goals rfl

end Go.Proofs.YtinjdlckhmkmaaaDoor.Flow

/- UTF: the reference: a text as JSON writes it. -/
namespace Go.Proofs.YtinjdlckhmkmaaaDoor.Flow
open Go

end Go.Proofs.YtinjdlckhmkmaaaDoor.Flow

/- REPORT: sixteens and values as texts, by both. -/
namespace Go.Proofs.YtinjdlckhmkmaaaDoor.Flow
open Go

end Go.Proofs.YtinjdlckhmkmaaaDoor.Flow

/- META: data, scans with a bound, the documents' Much. -/
namespace Go.Proofs.YtinjdlckhmkmaaaDoor.Flow
open Go

/-- A scan that may stop early. -/
def scanO (step : Nat → Int → Option Int) (len B : Nat) (i : Nat) (n : Int) : Option Int :=
  if h : i < len ∧ i < B then match step i n with
    | none => none
    | some m => scanO step len B (i + 1) m
  else some n
termination_by B - i
decreasing_by omega

/-- The place of a text in a list; -1: it is not there. -/
def idxI (n : List UInt8) : List (List UInt8) → Int
  | [] => -1
  | a :: r => if a = n then 0 else if idxI n r < 0 then -1 else idxI n r + 1

abbrev Txt := List UInt8
abbrev Fld := Txt × Txt
abbrev Vec := Txt × List Fld

def fldF (l : List Fld) : Nat → List D := fun i => [.s (l.getD i ([], [])).1, .s (l.getD i ([], [])).2]
def vecF (a : List Vec) : Nat → List D := fun i => [.s (a.getD i ([], [])).1, .sl 2 (a.getD i ([], [])).2.length (fldF (a.getD i ([], [])).2)]

def smallF (l : List Fld) : Prop := l.length ≤ 1048576 ∧ ∀ i, (l.getD i ([], [])).1.length ≤ 1048576 ∧ (l.getD i ([], [])).2.length ≤ 1048576
def smallV (a : List Vec) : Prop := a.length ≤ 1048576 ∧ ∀ i, (a.getD i ([], [])).1.length ≤ 1048576 ∧ smallF (a.getD i ([], [])).2

def fldW (l : List Fld) (k : Nat) (n : Int) : Option Int := some (n + 1 + ((l.getD k ([], [])).1.length : Int) + ((l.getD k ([], [])).2.length : Int))
def muchV1 (a : List Vec) (i : Nat) (n : Int) : Option Int :=
  match scanO (fldW (a.getD i ([], [])).2) (a.getD i ([], [])).2.length 30 0 n with
  | none => none
  | some m => if m > 1000 ∨ (a.getD i ([], [])).2.length > 25 then none else some m
def muchV (a : List Vec) : Bool :=
  match scanO (muchV1 a) a.length 30 0 0 with
  | none => true
  | some _ => decide (a.length > 25)

end Go.Proofs.YtinjdlckhmkmaaaDoor.Flow

/- META: places of layers and of fields. -/
namespace Go.Proofs.YtinjdlckhmkmaaaDoor.Flow
open Go

/-! ### Has -/
def infoD (a : List Vec) (c : Txt) : D := .ag [.sl 2 a.length (vecF a), .s c]

def hasV (a : List Vec) (id key : Txt) : Bool × Bool :=
  if idxI id (a.map (·.1)) < 0 then (false, false) else (true, decide (0 ≤ idxI key ((a.getD (idxI id (a.map (·.1))).toNat ([], [])).2.map (·.1))))

end Go.Proofs.YtinjdlckhmkmaaaDoor.Flow

/- META: a tile's layers; the document's Much of them. -/
namespace Go.Proofs.YtinjdlckhmkmaaaDoor.Flow
open Go

abbrev Att := Txt × Int × Txt × Int
structure Feat where
  hid : Bool
  id : Int
  ty : Int
  pn : Nat
  pf : Nat → Nat × (Nat → List D)
  ats : List Att
abbrev Lay := Txt × Int × List Feat

def dA : Att := ([], 0, [], 0)
def dF : Feat := ⟨false, 0, 0, 0, fun _ => (0, fun _ => [.i .i64 0, .i .i64 0]), []⟩
def dL : Lay := ([], 0, [])

def pthF (p : Nat → Nat × (Nat → List D)) : Nat → List D := fun k => [.sl 2 (p k).1 (p k).2]
def attF (l : List Att) : Nat → List D := fun i => [.s (l.getD i dA).1, .i .i64 (l.getD i dA).2.1, .s (l.getD i dA).2.2.1, .i .u64 (l.getD i dA).2.2.2]
def featF (l : List Feat) : Nat → List D := fun i => [.b (l.getD i dF).hid, .i .u64 (l.getD i dF).id, .i .i64 (l.getD i dF).ty, .sl 1 (l.getD i dF).pn (pthF (l.getD i dF).pf), .sl 4 (l.getD i dF).ats.length (attF (l.getD i dF).ats)]
def layF (l : List Lay) : Nat → List D := fun i => [.s (l.getD i dL).1, .i .i64 (l.getD i dL).2.1, .sl 5 (l.getD i dL).2.2.length (featF (l.getD i dL).2.2)]

def smallA (l : List Att) : Prop := l.length ≤ 1048576 ∧ ∀ i, (l.getD i dA).1.length ≤ 1048576 ∧ (l.getD i dA).2.2.1.length ≤ 1048576
def smallFe (f : Feat) : Prop := f.pn ≤ 1048576 ∧ (∀ k, (f.pf k).1 ≤ 1048576) ∧ smallA f.ats
def smallL (l : List Lay) : Prop := l.length ≤ 1048576 ∧ ∀ i, (l.getD i dL).1.length ≤ 1048576 ∧ (l.getD i dL).2.2.length ≤ 1048576 ∧ ∀ k, smallFe ((l.getD i dL).2.2.getD k dF)

def pthW (p : Nat → Nat × (Nat → List D)) (k : Nat) (n : Int) : Option Int := if n + 1 + ((p k).1 : Int) > 300 then none else some (n + 1 + ((p k).1 : Int))
def muchP (pn : Nat) (p : Nat → Nat × (Nat → List D)) : Bool :=
  match scanO (pthW p) pn 40 0 0 with
  | none => true
  | some _ => decide (pn > 40)

def attW (l : List Att) (m : Nat) (n : Int) : Option Int := some (n + 2 + ((l.getD m dA).1.length : Int) + ((l.getD m dA).2.2.1.length : Int))
def featW (l : List Feat) (k : Nat) (n : Int) : Option Int :=
  if muchP (l.getD k dF).pn (l.getD k dF).pf = true ∨ (l.getD k dF).ats.length > 20 then none else scanO (attW (l.getD k dF).ats) (l.getD k dF).ats.length 20 0 n
def layW (l : List Lay) (i : Nat) (n : Int) : Option Int :=
  match scanO (featW (l.getD i dL).2.2) (l.getD i dL).2.2.length 40 0 (n + ((l.getD i dL).1.length : Int)) with
  | none => none
  | some m => if m > 1500 ∨ (l.getD i dL).2.2.length > 30 then none else some m
def muchL (l : List Lay) : Bool :=
  match scanO (layW l) l.length 12 0 0 with
  | none => true
  | some _ => decide (l.length > 10)

end Go.Proofs.YtinjdlckhmkmaaaDoor.Flow

/- UTF: UtfQuotes' function. -/
namespace Go.Proofs.YtinjdlckhmkmaaaDoor.Flow
open Go

end Go.Proofs.YtinjdlckhmkmaaaDoor.Flow

/- REPORT: features as texts, by both. -/
namespace Go.Proofs.YtinjdlckhmkmaaaDoor.Flow
open Go

/-- A feature, its points told one by one. -/
structure FeatR where
  hid : Bool
  id : Nat
  ty : Int
  paths : List (List (Int × Int))
  ats : List Att

def dFR : FeatR := ⟨false, 0, 0, [], []⟩
def toF (f : FeatR) : Feat := ⟨f.hid, f.id, f.ty, f.paths.length, fun k => ((f.paths.getD k []).length, ptF (f.paths.getD k [])), f.ats⟩

def pgF (p : List (List (Int × Int))) : Nat → List D := pthF fun k => ((p.getD k []).length, ptF (p.getD k []))
def featC (f : FeatR) : List D := [.b f.hid, .i .u64 (f.id : Nat), .i .i64 f.ty, .sl 1 f.paths.length (pgF f.paths), .sl 4 f.ats.length (attF f.ats)]

def parT (p : List (Int × Int)) : List UInt8 := [[40], pathT p, [41]].flatten
def attT (a : Att) : List UInt8 := [quoteL a.1, [61], valT a.2.1 a.2.2.1 a.2.2.2.toNat].flatten
def nameT (ty : Int) : List UInt8 := if ty = 1 then [112, 111, 105, 110, 116] else if ty = 2 then [108, 105, 110, 101] else if ty = 3 then [112, 111, 108, 121, 103, 111, 110] else [63]
def headL (f : FeatR) : List (List UInt8) := if f.hid = true then [nameT f.ty, [105, 100], Lib.decDigits f.id] else [nameT f.ty]
def featT (f : FeatR) : List UInt8 := Lib.join (headL f ++ f.paths.map parT ++ f.ats.map attT) [32]

structure FeatOk (f : FeatR) : Prop where
  id : f.id < 18446744073709551616
  np : f.paths.length ≤ 64
  ps : ∀ i, ptsOk (f.paths.getD i []) ∧ (f.paths.getD i []).length ≤ 1000
  na : f.ats.length ≤ 64
  aso : ∀ i, (f.ats.getD i dA).1.length ≤ 1048576 ∧ (f.ats.getD i dA).2.2.1.length ≤ 1048576 ∧ 0 ≤ (f.ats.getD i dA).2.2.2 ∧ (f.ats.getD i dA).2.2.2 < 18446744073709551616

/-- Texts in a row that a literal began. -/
def chF (l : List (List UInt8)) : Nat → List D := chunk 1 (l.map D.s)

theorem takeM_snoc {α β : Type} (f : α → β) (l : List α) (d : α) {i : Nat} (h : i < l.length) : (l.map f).take (i + 1) = (l.map f).take i ++ [f (l.getD i d)] := by
  rw [List.take_add_one]
  simp [List.getElem?_map, List.getD_eq_getElem?_getD, h]

section
variable {X : Ctx} {n : Nat} {all rest : List Oper} {fr : Fr} {ow : Ow} {tr : List (List Nat × List Nat)} {K : Fr → Ow → List (List Nat × List Nat) → Prop}
/-- A cell that is known by a law. -/
theorem r_ldrf {t : Nat} {ty ty' : TypeId} {x : Operand} {ps : String} {af : Array Edge} {cs : List D} (d : D) (hx : ev fr x = .rf cs 0) (hz : B.sz ty = some (1, false)) (hcs : cs = [d]) (hn : Nat.blt t n = true)
    (h : CT Tryd.prog X n all rest ((t, d) :: fr) ow (tr ++ [([], [])]) K) : CT Tryd.prog X n all (⟨some t, .load ty x, ty', ps, af, none⟩ :: rest) fr ow tr K := by
  refine r_val (d := d) (p := partP (1, false) cs 0) (rd := []) ?_ hn ?_ h
  · show loadD B _ ty (ev fr x) = _
    rw [hx, hcs]
    unfold loadD
    rw [hz]
    exact fz_eq _ _
  · subst hcs
    exact Nat.le_refl 1
end

end Go.Proofs.YtinjdlckhmkmaaaDoor.Flow

/- REPORT: features as texts: the program's function, and the reference's. -/
namespace Go.Proofs.YtinjdlckhmkmaaaDoor.Flow
open Go

end Go.Proofs.YtinjdlckhmkmaaaDoor.Flow

/- REPORT: reasons; responses as texts, by both. -/
namespace Go.Proofs.YtinjdlckhmkmaaaDoor.Flow
open Go

def reasonT (st : Int) : List UInt8 :=
  if st = 200 then [79, 75] else if st = 204 then [78, 111, 32, 67, 111, 110, 116, 101, 110, 116] else if st = 304 then [78, 111, 116, 32, 77, 111, 100, 105, 102, 105, 101, 100]
  else if st = 400 then [66, 97, 100, 32, 82, 101, 113, 117, 101, 115, 116] else if st = 404 then [78, 111, 116, 32, 70, 111, 117, 110, 100] else if st = 405 then [77, 101, 116, 104, 111, 100, 32, 78, 111, 116, 32, 65, 108, 108, 111, 119, 101, 100]
  else if st = 500 then [73, 110, 116, 101, 114, 110, 97, 108, 32, 83, 101, 114, 118, 101, 114, 32, 69, 114, 114, 111, 114] else if st = 502 then [66, 97, 100, 32, 71, 97, 116, 101, 119, 97, 121] else []

theorem reason_no {st : Int} (h : ¬ st = 200 ∧ ¬ st = 204 ∧ ¬ st = 304 ∧ ¬ st = 400 ∧ ¬ st = 404 ∧ ¬ st = 405 ∧ ¬ st = 500 ∧ ¬ st = 502) : reasonT st = [] := by
  obtain ⟨h1, h2, h3, h4, h5, h6, h7, h8⟩ := h
  unfold reasonT
  rw [if_neg h1, if_neg h2, if_neg h3, if_neg h4, if_neg h5, if_neg h6, if_neg h7, if_neg h8]

theorem reason_len (st : Int) : (reasonT st).length ≤ 21 := by
  unfold reasonT
  repeat' split
  all_goals simp

theorem reason_ctr (st : Int) : Ctr Tryd.prog 37 [.i .i64 st] (.s (reasonT st)) := by
  have hn := @reason_no st
  generalize hR : reasonT st = R at *
  refine r_fun Tryd.func37 rfl Tryd.ntmps37 Tryd.results37 rfl rfl fun X hL hX => ?_
  repeat' (first
    | with_reducible refine t_seq ?_ | with_reducible refine t_region ?_ | with_reducible refine c_nil ?_ | with_reducible refine n_then ?_
    | with_reducible refine t_ret ?_ | with_reducible refine t_skip ?_ | with_reducible refine t_exit ?_ | with_reducible refine t_block ?_
    | with_reducible refine n_block ?_ | with_reducible refine e_then ?_ | with_reducible refine x_then ?_ | with_reducible refine x_block ?_ | with_reducible refine t_draw ?_
    | refine r_val rfl rfl True.intro ?_ | refine r_gskip rfl rfl rfl ?_ | refine r_gskip2 rfl rfl rfl ?_ | refine r_gval rfl rfl rfl rfl True.intro ?_
    | refine t_true rfl ?_ | refine t_false rfl ?_
    | ((first | refine t_cond_d rfl (fun _ => ?_) (fun _ => ?_) | refine t_cond_i rfl (fun _ => ?_) (fun _ => ?_) | refine t_cond_j rfl (fun _ => ?_) (fun _ => ?_) | refine t_cond_s rfl (fun _ => ?_) (fun _ => ?_) | refine t_cond_n rfl (fun _ => ?_) (fun _ => ?_) | refine t_cond rfl (fun _ => ?_) (fun _ => ?_) | refine c_split_d rfl rfl (fun _ => ?_) (fun _ => ?_) | refine c_split_i rfl rfl (fun _ => ?_) (fun _ => ?_) | refine c_split_j rfl rfl (fun _ => ?_) (fun _ => ?_) | refine c_split_s rfl rfl (fun _ => ?_) (fun _ => ?_) | refine c_split_n rfl rfl (fun _ => ?_) (fun _ => ?_)) <;> try (first | (rename_i hz; exact Bool.noConfusion (show true = false from hz)) | (rename_i hz; exact Bool.noConfusion (show false = true from hz)) | (exfalso; omega)))
    | refine r_val rfl rfl (by (first | omega | exact Nat.le_of_ble_eq_true rfl | (simp only [wrap_u8, IntKind.wrap_i64, IntKind.wrap_i32, wrap_u32', wrap_u64', InI]; (repeat' refine And.intro ?_ ?_) <;> omega) | ((repeat' refine And.intro ?_ ?_) <;> first | omega | rfl | exact Nat.le_refl _ | exact Nat.le_of_ble_eq_true rfl | exact bytesF_one _) | (simp_all; done) | (simp_all; omega))) ?_ | refine r_gval rfl rfl rfl rfl (by (first | omega | exact Nat.le_of_ble_eq_true rfl | (simp only [wrap_u8, IntKind.wrap_i64, IntKind.wrap_i32, wrap_u32', wrap_u64', InI]; (repeat' refine And.intro ?_ ?_) <;> omega) | ((repeat' refine And.intro ?_ ?_) <;> first | omega | rfl | exact Nat.le_refl _ | exact Nat.le_of_ble_eq_true rfl | exact bytesF_one _) | (simp_all; done) | (simp_all; omega))) ?_
    | refine r_obj rfl rfl (by (first | omega | exact Nat.le_of_ble_eq_true rfl | (simp only [wrap_u8, IntKind.wrap_i64, IntKind.wrap_i32, wrap_u32', wrap_u64', InI]; (repeat' refine And.intro ?_ ?_) <;> omega) | ((repeat' refine And.intro ?_ ?_) <;> first | omega | rfl | exact Nat.le_refl _ | exact Nat.le_of_ble_eq_true rfl | exact bytesF_one _) | (simp_all; done) | (simp_all; omega))) ?_ | refine r_sto rfl (by (first | omega | exact Nat.le_of_ble_eq_true rfl | (simp only [wrap_u8, IntKind.wrap_i64, IntKind.wrap_i32, wrap_u32', wrap_u64', InI]; (repeat' refine And.intro ?_ ?_) <;> omega) | ((repeat' refine And.intro ?_ ?_) <;> first | omega | rfl | exact Nat.le_refl _ | exact Nat.le_of_ble_eq_true rfl | exact bytesF_one _) | (simp_all; done) | (simp_all; omega))) ?_ | refine r_gobj rfl rfl rfl rfl (by (first | omega | exact Nat.le_of_ble_eq_true rfl | (simp only [wrap_u8, IntKind.wrap_i64, IntKind.wrap_i32, wrap_u32', wrap_u64', InI]; (repeat' refine And.intro ?_ ?_) <;> omega) | ((repeat' refine And.intro ?_ ?_) <;> first | omega | rfl | exact Nat.le_refl _ | exact Nat.le_of_ble_eq_true rfl | exact bytesF_one _) | (simp_all; done) | (simp_all; omega))) ?_
    | refine e_hit rfl ?_ | refine e_miss rfl ?_
    | refine ⟨by kernel_rfl, ?_⟩ | refine x_end rfl ?_ | ((with_reducible refine c_grd ?_); (fail_if_success (refine c_lit true rfl rfl rfl ?_)); (fail_if_success (refine c_lit false rfl rfl rfl ?_)); refine c_split rfl rfl (fun _ => ?_) (fun _ => ?_)))
  all_goals first
    | exact congrArg D.s (hn (by omega)).symm
    | (rename_i h
       subst h
       exact congrArg D.s hR)
    | (rw [← hR]
       subst_vars
       rfl)

theorem rreason_ctr (st : Int) : Ctr Tryd.prog 38 [.i .i64 st] (.s (reasonT st)) := by
  have hn := @reason_no st
  generalize hR : reasonT st = R at *
  refine r_fun Tryd.func38 rfl Tryd.ntmps38 Tryd.results38 rfl rfl fun X hL hX => ?_
  repeat' (first
    | with_reducible refine t_seq ?_ | with_reducible refine t_region ?_ | with_reducible refine c_nil ?_ | with_reducible refine n_then ?_
    | with_reducible refine t_ret ?_ | with_reducible refine t_skip ?_ | with_reducible refine t_exit ?_ | with_reducible refine t_block ?_
    | with_reducible refine n_block ?_ | with_reducible refine e_then ?_ | with_reducible refine x_then ?_ | with_reducible refine x_block ?_ | with_reducible refine t_draw ?_
    | refine r_val rfl rfl True.intro ?_ | refine r_gskip rfl rfl rfl ?_ | refine r_gskip2 rfl rfl rfl ?_ | refine r_gval rfl rfl rfl rfl True.intro ?_
    | refine t_true rfl ?_ | refine t_false rfl ?_
    | ((first | refine t_cond_d rfl (fun _ => ?_) (fun _ => ?_) | refine t_cond_i rfl (fun _ => ?_) (fun _ => ?_) | refine t_cond_j rfl (fun _ => ?_) (fun _ => ?_) | refine t_cond_s rfl (fun _ => ?_) (fun _ => ?_) | refine t_cond_n rfl (fun _ => ?_) (fun _ => ?_) | refine t_cond rfl (fun _ => ?_) (fun _ => ?_) | refine c_split_d rfl rfl (fun _ => ?_) (fun _ => ?_) | refine c_split_i rfl rfl (fun _ => ?_) (fun _ => ?_) | refine c_split_j rfl rfl (fun _ => ?_) (fun _ => ?_) | refine c_split_s rfl rfl (fun _ => ?_) (fun _ => ?_) | refine c_split_n rfl rfl (fun _ => ?_) (fun _ => ?_)) <;> try (first | (rename_i hz; exact Bool.noConfusion (show true = false from hz)) | (rename_i hz; exact Bool.noConfusion (show false = true from hz)) | (exfalso; omega)))
    | refine r_val rfl rfl (by (first | omega | exact Nat.le_of_ble_eq_true rfl | (simp only [wrap_u8, IntKind.wrap_i64, IntKind.wrap_i32, wrap_u32', wrap_u64', InI]; (repeat' refine And.intro ?_ ?_) <;> omega) | ((repeat' refine And.intro ?_ ?_) <;> first | omega | rfl | exact Nat.le_refl _ | exact Nat.le_of_ble_eq_true rfl | exact bytesF_one _) | (simp_all; done) | (simp_all; omega))) ?_ | refine r_gval rfl rfl rfl rfl (by (first | omega | exact Nat.le_of_ble_eq_true rfl | (simp only [wrap_u8, IntKind.wrap_i64, IntKind.wrap_i32, wrap_u32', wrap_u64', InI]; (repeat' refine And.intro ?_ ?_) <;> omega) | ((repeat' refine And.intro ?_ ?_) <;> first | omega | rfl | exact Nat.le_refl _ | exact Nat.le_of_ble_eq_true rfl | exact bytesF_one _) | (simp_all; done) | (simp_all; omega))) ?_
    | refine r_obj rfl rfl (by (first | omega | exact Nat.le_of_ble_eq_true rfl | (simp only [wrap_u8, IntKind.wrap_i64, IntKind.wrap_i32, wrap_u32', wrap_u64', InI]; (repeat' refine And.intro ?_ ?_) <;> omega) | ((repeat' refine And.intro ?_ ?_) <;> first | omega | rfl | exact Nat.le_refl _ | exact Nat.le_of_ble_eq_true rfl | exact bytesF_one _) | (simp_all; done) | (simp_all; omega))) ?_ | refine r_sto rfl (by (first | omega | exact Nat.le_of_ble_eq_true rfl | (simp only [wrap_u8, IntKind.wrap_i64, IntKind.wrap_i32, wrap_u32', wrap_u64', InI]; (repeat' refine And.intro ?_ ?_) <;> omega) | ((repeat' refine And.intro ?_ ?_) <;> first | omega | rfl | exact Nat.le_refl _ | exact Nat.le_of_ble_eq_true rfl | exact bytesF_one _) | (simp_all; done) | (simp_all; omega))) ?_ | refine r_gobj rfl rfl rfl rfl (by (first | omega | exact Nat.le_of_ble_eq_true rfl | (simp only [wrap_u8, IntKind.wrap_i64, IntKind.wrap_i32, wrap_u32', wrap_u64', InI]; (repeat' refine And.intro ?_ ?_) <;> omega) | ((repeat' refine And.intro ?_ ?_) <;> first | omega | rfl | exact Nat.le_refl _ | exact Nat.le_of_ble_eq_true rfl | exact bytesF_one _) | (simp_all; done) | (simp_all; omega))) ?_
    | refine e_hit rfl ?_ | refine e_miss rfl ?_
    | refine ⟨by kernel_rfl, ?_⟩ | refine x_end rfl ?_ | ((with_reducible refine c_grd ?_); (fail_if_success (refine c_lit true rfl rfl rfl ?_)); (fail_if_success (refine c_lit false rfl rfl rfl ?_)); refine c_split rfl rfl (fun _ => ?_) (fun _ => ?_)))
  refine T.loop hL (fun i : Nat => [(0, .i .i64 st), (3, .gs 6 1 8 (chunk 1 [.i .i64 200, .i .i64 204, .i .i64 304, .i .i64 400, .i .i64 404, .i .i64 405, .i .i64 500, .i .i64 502])),
      (4, .gs 7 1 8 (chunk 1 [.s [79, 75], .s [78, 111, 32, 67, 111, 110, 116, 101, 110, 116], .s [78, 111, 116, 32, 77, 111, 100, 105, 102, 105, 101, 100], .s [66, 97, 100, 32, 82, 101, 113, 117, 101, 115, 116], .s [78, 111, 116, 32, 70, 111, 117, 110, 100], .s [77, 101, 116, 104, 111, 100, 32, 78, 111, 116, 32, 65, 108, 108, 111, 119, 101, 100], .s [73, 110, 116, 101, 114, 110, 97, 108, 32, 83, 101, 114, 118, 101, 114, 32, 69, 114, 114, 111, 114], .s [66, 97, 100, 32, 71, 97, 116, 101, 119, 97, 121]])), (5, .i .i64 i)])
    (fun _ => [(6, .row 3 1 8), (7, .row 9 1 8)])
    (fun i => i ≤ 8 ∧ (0 < i → ¬ st = 200) ∧ (1 < i → ¬ st = 204) ∧ (2 < i → ¬ st = 304) ∧ (3 < i → ¬ st = 400) ∧ (4 < i → ¬ st = 404) ∧ (5 < i → ¬ st = 405) ∧ (6 < i → ¬ st = 500) ∧ (7 < i → ¬ st = 502)) (fun i => 8 - i) 0
    ⟨by omega, by omega, by omega, by omega, by omega, by omega, by omega, by omega, by omega⟩ ⟨⟨rfl, rfl, rfl, rfl, trivial⟩, ⟨rfl, rfl, trivial⟩, rfl, by rw [hX]; intro k hk; cases hk⟩ ?_
  rintro i ⟨g0, g1, g2, g3, g4, g5, g6, g7, g8⟩
  rcases (show i = 0 ∨ i = 1 ∨ i = 2 ∨ i = 3 ∨ i = 4 ∨ i = 5 ∨ i = 6 ∨ i = 7 ∨ i = 8 by omega) with rfl | rfl | rfl | rfl | rfl | rfl | rfl | rfl | rfl
  all_goals
    repeat' (first
      | with_reducible refine t_seq ?_ | with_reducible refine t_region ?_ | with_reducible refine c_nil ?_ | with_reducible refine n_then ?_
      | with_reducible refine t_ret ?_ | with_reducible refine t_skip ?_ | with_reducible refine t_exit ?_ | with_reducible refine t_block ?_
      | with_reducible refine n_block ?_ | with_reducible refine e_then ?_ | with_reducible refine x_then ?_ | with_reducible refine x_block ?_ | with_reducible refine t_draw ?_
      | refine r_val rfl rfl True.intro ?_ | refine r_gskip rfl rfl rfl ?_ | refine r_gskip2 rfl rfl rfl ?_ | refine r_gval rfl rfl rfl rfl True.intro ?_
      | refine t_true rfl ?_ | refine t_false rfl ?_
      | ((first | refine t_cond_d rfl (fun _ => ?_) (fun _ => ?_) | refine t_cond_i rfl (fun _ => ?_) (fun _ => ?_) | refine t_cond_j rfl (fun _ => ?_) (fun _ => ?_) | refine t_cond_s rfl (fun _ => ?_) (fun _ => ?_) | refine t_cond_n rfl (fun _ => ?_) (fun _ => ?_) | refine t_cond rfl (fun _ => ?_) (fun _ => ?_) | refine c_split_d rfl rfl (fun _ => ?_) (fun _ => ?_) | refine c_split_i rfl rfl (fun _ => ?_) (fun _ => ?_) | refine c_split_j rfl rfl (fun _ => ?_) (fun _ => ?_) | refine c_split_s rfl rfl (fun _ => ?_) (fun _ => ?_) | refine c_split_n rfl rfl (fun _ => ?_) (fun _ => ?_)) <;> try (first | (rename_i hz; exact Bool.noConfusion (show true = false from hz)) | (rename_i hz; exact Bool.noConfusion (show false = true from hz)) | (exfalso; omega)))
      | refine r_val rfl rfl (by (first | omega | exact Nat.le_of_ble_eq_true rfl | (simp only [wrap_u8, IntKind.wrap_i64, IntKind.wrap_i32, wrap_u32', wrap_u64', InI]; (repeat' refine And.intro ?_ ?_) <;> omega) | ((repeat' refine And.intro ?_ ?_) <;> first | omega | rfl | exact Nat.le_refl _ | exact Nat.le_of_ble_eq_true rfl | exact bytesF_one _) | (simp_all; done) | (simp_all; omega))) ?_ | refine r_gval rfl rfl rfl rfl (by (first | omega | exact Nat.le_of_ble_eq_true rfl | (simp only [wrap_u8, IntKind.wrap_i64, IntKind.wrap_i32, wrap_u32', wrap_u64', InI]; (repeat' refine And.intro ?_ ?_) <;> omega) | ((repeat' refine And.intro ?_ ?_) <;> first | omega | rfl | exact Nat.le_refl _ | exact Nat.le_of_ble_eq_true rfl | exact bytesF_one _) | (simp_all; done) | (simp_all; omega))) ?_
      | refine r_obj rfl rfl (by (first | omega | exact Nat.le_of_ble_eq_true rfl | (simp only [wrap_u8, IntKind.wrap_i64, IntKind.wrap_i32, wrap_u32', wrap_u64', InI]; (repeat' refine And.intro ?_ ?_) <;> omega) | ((repeat' refine And.intro ?_ ?_) <;> first | omega | rfl | exact Nat.le_refl _ | exact Nat.le_of_ble_eq_true rfl | exact bytesF_one _) | (simp_all; done) | (simp_all; omega))) ?_ | refine r_sto rfl (by (first | omega | exact Nat.le_of_ble_eq_true rfl | (simp only [wrap_u8, IntKind.wrap_i64, IntKind.wrap_i32, wrap_u32', wrap_u64', InI]; (repeat' refine And.intro ?_ ?_) <;> omega) | ((repeat' refine And.intro ?_ ?_) <;> first | omega | rfl | exact Nat.le_refl _ | exact Nat.le_of_ble_eq_true rfl | exact bytesF_one _) | (simp_all; done) | (simp_all; omega))) ?_ | refine r_gobj rfl rfl rfl rfl (by (first | omega | exact Nat.le_of_ble_eq_true rfl | (simp only [wrap_u8, IntKind.wrap_i64, IntKind.wrap_i32, wrap_u32', wrap_u64', InI]; (repeat' refine And.intro ?_ ?_) <;> omega) | ((repeat' refine And.intro ?_ ?_) <;> first | omega | rfl | exact Nat.le_refl _ | exact Nat.le_of_ble_eq_true rfl | exact bytesF_one _) | (simp_all; done) | (simp_all; omega))) ?_
      | refine e_hit rfl ?_ | refine e_miss rfl ?_
      | refine ⟨by kernel_rfl, ?_⟩ | refine x_end rfl ?_ | ((with_reducible refine c_grd ?_); (fail_if_success (refine c_lit true rfl rfl rfl ?_)); (fail_if_success (refine c_lit false rfl rfl rfl ?_)); refine c_split rfl rfl (fun _ => ?_) (fun _ => ?_)))
  all_goals first
    | exact congrArg D.s (hn (by omega)).symm
    | (rename_i h
       subst h
       exact congrArg D.s hR)
    | exact ⟨1, ⟨by omega, by omega, by omega, by omega, by omega, by omega, by omega, by omega, by omega⟩, by omega, ⟨rfl, rfl, rfl, rfl, trivial⟩, ⟨rfl, rfl, trivial⟩, rfl, by rw [hX]; intro k hk; cases hk⟩
    | exact ⟨2, ⟨by omega, by omega, by omega, by omega, by omega, by omega, by omega, by omega, by omega⟩, by omega, ⟨rfl, rfl, rfl, rfl, trivial⟩, ⟨rfl, rfl, trivial⟩, rfl, by rw [hX]; intro k hk; cases hk⟩
    | exact ⟨3, ⟨by omega, by omega, by omega, by omega, by omega, by omega, by omega, by omega, by omega⟩, by omega, ⟨rfl, rfl, rfl, rfl, trivial⟩, ⟨rfl, rfl, trivial⟩, rfl, by rw [hX]; intro k hk; cases hk⟩
    | exact ⟨4, ⟨by omega, by omega, by omega, by omega, by omega, by omega, by omega, by omega, by omega⟩, by omega, ⟨rfl, rfl, rfl, rfl, trivial⟩, ⟨rfl, rfl, trivial⟩, rfl, by rw [hX]; intro k hk; cases hk⟩
    | exact ⟨5, ⟨by omega, by omega, by omega, by omega, by omega, by omega, by omega, by omega, by omega⟩, by omega, ⟨rfl, rfl, rfl, rfl, trivial⟩, ⟨rfl, rfl, trivial⟩, rfl, by rw [hX]; intro k hk; cases hk⟩
    | exact ⟨6, ⟨by omega, by omega, by omega, by omega, by omega, by omega, by omega, by omega, by omega⟩, by omega, ⟨rfl, rfl, rfl, rfl, trivial⟩, ⟨rfl, rfl, trivial⟩, rfl, by rw [hX]; intro k hk; cases hk⟩
    | exact ⟨7, ⟨by omega, by omega, by omega, by omega, by omega, by omega, by omega, by omega, by omega⟩, by omega, ⟨rfl, rfl, rfl, rfl, trivial⟩, ⟨rfl, rfl, trivial⟩, rfl, by rw [hX]; intro k hk; cases hk⟩
    | exact ⟨8, ⟨by omega, by omega, by omega, by omega, by omega, by omega, by omega, by omega, by omega⟩, by omega, ⟨rfl, rfl, rfl, rfl, trivial⟩, ⟨rfl, rfl, trivial⟩, rfl, by rw [hX]; intro k hk; cases hk⟩

/-! ### Responses -/
abbrev HdrL := List (List UInt8 × List UInt8)
def hedF (l : HdrL) : Nat → List D := fun i => [.s (l.getD i ([], [])).1, .s (l.getD i ([], [])).2]
def rspC (st : Int) (hs : HdrL) (b : List UInt8) : List D := [.i .i64 st, .sl 2 hs.length (hedF hs), .sl 1 b.length (bytesF b)]

def hedT (h : List UInt8 × List UInt8) : List UInt8 := [[32, 32], h.1, [58, 32], h.2, [10]].flatten
def ansH (st : Int) (nb : Nat) : List UInt8 := [Lib.itoa st, [32], reasonT st, [32], Lib.itoa nb, [10]].flatten
def ansP (st : Int) (hs : HdrL) (nb : Nat) (i : Nat) : List UInt8 := ansH st nb ++ ((hs.map hedT).take i).flatten
def ansT (st : Int) (hs : HdrL) (nb : Nat) : List UInt8 := ansP st hs nb hs.length

structure RspOk (st : Int) (hs : HdrL) (b : List UInt8) : Prop where
  st : I64 st
  nh : hs.length ≤ 1048576
  hs : ∀ i, (hs.getD i ([], [])).1.length ≤ 1048576 ∧ (hs.getD i ([], [])).2.length ≤ 1048576
  nb : b.length ≤ 1048576

theorem ansP_zero (st : Int) (hs : HdrL) (nb : Nat) : ansP st hs nb 0 = ansH st nb := by
  unfold ansP
  simp

theorem ansP_succ (st : Int) (hs : HdrL) (nb : Nat) {i : Nat} (hi : i < hs.length) : ansP st hs nb (i + 1) = ansP st hs nb i ++ hedT (hs.getD i ([], [])) := by
  unfold ansP
  rw [takeM_snoc hedT hs ([], []) hi, List.flatten_append]
  simp

theorem hedT_len {st : Int} {hs : HdrL} {b : List UInt8} (h : RspOk st hs b) (i : Nat) : (hedT (hs.getD i ([], []))).length ≤ 2097160 := by
  have := h.hs i
  unfold hedT
  simp only [List.flatten_cons, List.flatten_nil, List.length_append, List.length_cons, List.length_nil]
  omega

theorem ansP_len {st : Int} {hs : HdrL} {b : List UInt8} (h : RspOk st hs b) : ∀ i, i ≤ hs.length → (ansP st hs b.length i).length ≤ 100 + i * 2097160
  | 0, _ => by
    have h1 := itoa_lenI st h.st.1 h.st.2
    have h3 := itoa_lenI (b.length : Nat) (by omega) (by have := h.nb; omega)
    have h2 := reason_len st
    rw [ansP_zero]
    unfold ansH
    simp only [List.flatten_cons, List.flatten_nil, List.length_append, List.length_cons, List.length_nil]
    omega
  | i + 1, hi => by
    have := ansP_len h i (by omega)
    have := hedT_len h i
    rw [ansP_succ st hs b.length (by omega), List.length_append]
    omega

set_option maxHeartbeats 2000000 in
theorem answer_ctr (st : Int) (hs : HdrL) (b : List UInt8) (h : RspOk st hs b) : Ctr Tryd.prog 14 [.ag (rspC st hs b)] (.s (ansT st hs b.length)) := by
  have hn := h.nh
  have hb := h.nb
  have hlen := ansP_len h
  have c1 := rnum_ctrR st h.st.1 h.st.2
  have c2 := reason_ctr st
  have c3 := rnum_ctrR (b.length : Nat) (by omega) (by omega)
  have h0 := hlen 0 (Nat.zero_le _)
  rw [ansP_zero] at h0
  have c4 := rtext_ctrR [Lib.itoa st, [32], reasonT st, [32], Lib.itoa b.length, [10]] 6 (chF [Lib.itoa st, [32], reasonT st, [32], Lib.itoa b.length, [10]]) rfl (chunk_tx _) (by simp) (by unfold ansH at h0; omega)
  rw [show [Lib.itoa st, [32], reasonT st, [32], Lib.itoa b.length, [10]].flatten = ansP st hs b.length 0 from (ansP_zero st hs b.length).symm] at c4
  generalize Lib.itoa st = A1 at *
  generalize Lib.itoa b.length = A2 at *
  generalize reasonT st = A3 at *
  refine r_fun Tryd.func14 rfl Tryd.ntmps14 Tryd.results14 rfl rfl fun X hL hX => ?_
  repeat' (first
    | with_reducible refine t_seq ?_ | with_reducible refine t_region ?_ | with_reducible refine c_nil ?_ | with_reducible refine n_then ?_
    | with_reducible refine t_ret ?_ | with_reducible refine t_skip ?_ | with_reducible refine t_exit ?_ | with_reducible refine t_block ?_
    | with_reducible refine n_block ?_ | with_reducible refine e_then ?_ | with_reducible refine x_then ?_ | with_reducible refine x_block ?_ | with_reducible refine t_draw ?_
    | refine r_val rfl rfl True.intro ?_ | refine r_gskip rfl rfl rfl ?_ | refine r_gskip2 rfl rfl rfl ?_ | refine r_gval rfl rfl rfl rfl True.intro ?_
    | refine t_true rfl ?_ | refine t_false rfl ?_
    | ((first | refine t_cond_d rfl (fun _ => ?_) (fun _ => ?_) | refine t_cond_i rfl (fun _ => ?_) (fun _ => ?_) | refine t_cond_j rfl (fun _ => ?_) (fun _ => ?_) | refine t_cond_s rfl (fun _ => ?_) (fun _ => ?_) | refine t_cond_n rfl (fun _ => ?_) (fun _ => ?_) | refine t_cond rfl (fun _ => ?_) (fun _ => ?_) | refine c_split_d rfl rfl (fun _ => ?_) (fun _ => ?_) | refine c_split_i rfl rfl (fun _ => ?_) (fun _ => ?_) | refine c_split_j rfl rfl (fun _ => ?_) (fun _ => ?_) | refine c_split_s rfl rfl (fun _ => ?_) (fun _ => ?_) | refine c_split_n rfl rfl (fun _ => ?_) (fun _ => ?_)) <;> try (first | (rename_i hz; exact Bool.noConfusion (show true = false from hz)) | (rename_i hz; exact Bool.noConfusion (show false = true from hz)) | (exfalso; omega)))
    | refine r_val rfl rfl (by (first | omega | exact Nat.le_of_ble_eq_true rfl | (simp only [wrap_u8, IntKind.wrap_i64, IntKind.wrap_i32, wrap_u32', wrap_u64', InI]; (repeat' refine And.intro ?_ ?_) <;> omega) | ((repeat' refine And.intro ?_ ?_) <;> first | omega | rfl | exact Nat.le_refl _ | exact Nat.le_of_ble_eq_true rfl | exact bytesF_one _) | (simp_all; done) | (simp_all; omega))) ?_ | refine r_gval rfl rfl rfl rfl (by (first | omega | exact Nat.le_of_ble_eq_true rfl | (simp only [wrap_u8, IntKind.wrap_i64, IntKind.wrap_i32, wrap_u32', wrap_u64', InI]; (repeat' refine And.intro ?_ ?_) <;> omega) | ((repeat' refine And.intro ?_ ?_) <;> first | omega | rfl | exact Nat.le_refl _ | exact Nat.le_of_ble_eq_true rfl | exact bytesF_one _) | (simp_all; done) | (simp_all; omega))) ?_
    | refine r_obj rfl rfl (by (first | omega | exact Nat.le_of_ble_eq_true rfl | (simp only [wrap_u8, IntKind.wrap_i64, IntKind.wrap_i32, wrap_u32', wrap_u64', InI]; (repeat' refine And.intro ?_ ?_) <;> omega) | ((repeat' refine And.intro ?_ ?_) <;> first | omega | rfl | exact Nat.le_refl _ | exact Nat.le_of_ble_eq_true rfl | exact bytesF_one _) | (simp_all; done) | (simp_all; omega))) ?_ | refine r_sto rfl (by (first | omega | exact Nat.le_of_ble_eq_true rfl | (simp only [wrap_u8, IntKind.wrap_i64, IntKind.wrap_i32, wrap_u32', wrap_u64', InI]; (repeat' refine And.intro ?_ ?_) <;> omega) | ((repeat' refine And.intro ?_ ?_) <;> first | omega | rfl | exact Nat.le_refl _ | exact Nat.le_of_ble_eq_true rfl | exact bytesF_one _) | (simp_all; done) | (simp_all; omega))) ?_ | refine r_gobj rfl rfl rfl rfl (by (first | omega | exact Nat.le_of_ble_eq_true rfl | (simp only [wrap_u8, IntKind.wrap_i64, IntKind.wrap_i32, wrap_u32', wrap_u64', InI]; (repeat' refine And.intro ?_ ?_) <;> omega) | ((repeat' refine And.intro ?_ ?_) <;> first | omega | rfl | exact Nat.le_refl _ | exact Nat.le_of_ble_eq_true rfl | exact bytesF_one _) | (simp_all; done) | (simp_all; omega))) ?_
    | refine e_hit rfl ?_ | refine e_miss rfl ?_
    | refine ⟨by kernel_rfl, ?_⟩ | refine x_end rfl ?_ | refine r_call (f := 25) rfl rfl Tryd.call25 rfl c1 ?_ | refine r_call (f := 25) rfl rfl Tryd.call25 rfl c3 ?_ | refine r_call (f := 37) rfl rfl Tryd.call37 rfl c2 ?_ | refine r_call (f := 24) rfl rfl Tryd.call24 rfl c4 ?_ | ((with_reducible refine c_grd ?_); (fail_if_success (refine c_lit true rfl rfl rfl ?_)); (fail_if_success (refine c_lit false rfl rfl rfl ?_)); refine c_split rfl rfl (fun _ => ?_) (fun _ => ?_)))
  refine T.loop hL (fun i : Nat => [(3, .s (ansP st hs b.length i)), (19, .sl 2 hs.length (hedF hs)), (20, .i .i64 hs.length), (21, .i .i64 i)]) (fun _ => []) (fun i => i ≤ hs.length) (fun i => hs.length - i) 0
    (Nat.zero_le _) ⟨⟨rfl, rfl, rfl, rfl, trivial⟩, trivial, rfl, by rw [hX]; intro k hk; cases hk⟩ ?_
  intro i g1
  by_cases hi : i < hs.length
  · have l1 := hlen i (by omega)
    have l2 := hedT_len h i
    have d1 := rtext_ctrR [[32, 32], (hs.getD i ([], [])).1, [58, 32], (hs.getD i ([], [])).2, [10]] 5 (chF [[32, 32], (hs.getD i ([], [])).1, [58, 32], (hs.getD i ([], [])).2, [10]]) rfl (chunk_tx _) (by simp) (by unfold hedT at l2; omega)
    rw [show [[32, 32], (hs.getD i ([], [])).1, [58, 32], (hs.getD i ([], [])).2, [10]].flatten = hedT (hs.getD i ([], [])) from rfl] at d1
    have e := (ansP_succ st hs b.length hi).symm
    generalize hedT (hs.getD i ([], [])) = R at *
    repeat' (first
      | with_reducible refine t_seq ?_ | with_reducible refine t_region ?_ | with_reducible refine c_nil ?_ | with_reducible refine n_then ?_
      | with_reducible refine t_ret ?_ | with_reducible refine t_skip ?_ | with_reducible refine t_exit ?_ | with_reducible refine t_block ?_
      | with_reducible refine n_block ?_ | with_reducible refine e_then ?_ | with_reducible refine x_then ?_ | with_reducible refine x_block ?_ | with_reducible refine t_draw ?_
      | refine r_val rfl rfl True.intro ?_ | refine r_gskip rfl rfl rfl ?_ | refine r_gskip2 rfl rfl rfl ?_ | refine r_gval rfl rfl rfl rfl True.intro ?_
      | refine t_true rfl ?_ | refine t_false rfl ?_
      | ((first | refine t_cond_d rfl (fun _ => ?_) (fun _ => ?_) | refine t_cond_i rfl (fun _ => ?_) (fun _ => ?_) | refine t_cond_j rfl (fun _ => ?_) (fun _ => ?_) | refine t_cond_s rfl (fun _ => ?_) (fun _ => ?_) | refine t_cond_n rfl (fun _ => ?_) (fun _ => ?_) | refine t_cond rfl (fun _ => ?_) (fun _ => ?_) | refine c_split_d rfl rfl (fun _ => ?_) (fun _ => ?_) | refine c_split_i rfl rfl (fun _ => ?_) (fun _ => ?_) | refine c_split_j rfl rfl (fun _ => ?_) (fun _ => ?_) | refine c_split_s rfl rfl (fun _ => ?_) (fun _ => ?_) | refine c_split_n rfl rfl (fun _ => ?_) (fun _ => ?_)) <;> try (first | (rename_i hz; exact Bool.noConfusion (show true = false from hz)) | (rename_i hz; exact Bool.noConfusion (show false = true from hz)) | (exfalso; omega)))
      | refine r_val rfl rfl (by (first | omega | exact Nat.le_of_ble_eq_true rfl | (simp only [wrap_u8, IntKind.wrap_i64, IntKind.wrap_i32, wrap_u32', wrap_u64', InI]; (repeat' refine And.intro ?_ ?_) <;> omega) | ((repeat' refine And.intro ?_ ?_) <;> first | omega | rfl | exact Nat.le_refl _ | exact Nat.le_of_ble_eq_true rfl | exact bytesF_one _) | (simp_all; done) | (simp_all; omega))) ?_ | refine r_gval rfl rfl rfl rfl (by (first | omega | exact Nat.le_of_ble_eq_true rfl | (simp only [wrap_u8, IntKind.wrap_i64, IntKind.wrap_i32, wrap_u32', wrap_u64', InI]; (repeat' refine And.intro ?_ ?_) <;> omega) | ((repeat' refine And.intro ?_ ?_) <;> first | omega | rfl | exact Nat.le_refl _ | exact Nat.le_of_ble_eq_true rfl | exact bytesF_one _) | (simp_all; done) | (simp_all; omega))) ?_
      | refine r_obj rfl rfl (by (first | omega | exact Nat.le_of_ble_eq_true rfl | (simp only [wrap_u8, IntKind.wrap_i64, IntKind.wrap_i32, wrap_u32', wrap_u64', InI]; (repeat' refine And.intro ?_ ?_) <;> omega) | ((repeat' refine And.intro ?_ ?_) <;> first | omega | rfl | exact Nat.le_refl _ | exact Nat.le_of_ble_eq_true rfl | exact bytesF_one _) | (simp_all; done) | (simp_all; omega))) ?_ | refine r_sto rfl (by (first | omega | exact Nat.le_of_ble_eq_true rfl | (simp only [wrap_u8, IntKind.wrap_i64, IntKind.wrap_i32, wrap_u32', wrap_u64', InI]; (repeat' refine And.intro ?_ ?_) <;> omega) | ((repeat' refine And.intro ?_ ?_) <;> first | omega | rfl | exact Nat.le_refl _ | exact Nat.le_of_ble_eq_true rfl | exact bytesF_one _) | (simp_all; done) | (simp_all; omega))) ?_ | refine r_gobj rfl rfl rfl rfl (by (first | omega | exact Nat.le_of_ble_eq_true rfl | (simp only [wrap_u8, IntKind.wrap_i64, IntKind.wrap_i32, wrap_u32', wrap_u64', InI]; (repeat' refine And.intro ?_ ?_) <;> omega) | ((repeat' refine And.intro ?_ ?_) <;> first | omega | rfl | exact Nat.le_refl _ | exact Nat.le_of_ble_eq_true rfl | exact bytesF_one _) | (simp_all; done) | (simp_all; omega))) ?_
      | refine e_hit rfl ?_ | refine e_miss rfl ?_
      | refine ⟨by kernel_rfl, ?_⟩ | refine x_end rfl ?_ | refine r_call (f := 24) rfl rfl Tryd.call24 rfl d1 ?_ | ((with_reducible refine c_grd ?_); (fail_if_success (refine c_lit true rfl rfl rfl ?_)); (fail_if_success (refine c_lit false rfl rfl rfl ?_)); refine c_split rfl rfl (fun _ => ?_) (fun _ => ?_)))
    all_goals exact ⟨i + 1, by omega, by omega, ⟨congrArg D.s e, rfl, rfl, rfl, trivial⟩, trivial, rfl, by rw [hX]; intro k hk; cases hk⟩
  · obtain rfl : i = hs.length := by omega
    repeat' (first
      | with_reducible refine t_seq ?_ | with_reducible refine t_region ?_ | with_reducible refine c_nil ?_ | with_reducible refine n_then ?_
      | with_reducible refine t_ret ?_ | with_reducible refine t_skip ?_ | with_reducible refine t_exit ?_ | with_reducible refine t_block ?_
      | with_reducible refine n_block ?_ | with_reducible refine e_then ?_ | with_reducible refine x_then ?_ | with_reducible refine x_block ?_ | with_reducible refine t_draw ?_
      | refine r_val rfl rfl True.intro ?_ | refine r_gskip rfl rfl rfl ?_ | refine r_gskip2 rfl rfl rfl ?_ | refine r_gval rfl rfl rfl rfl True.intro ?_
      | refine t_true rfl ?_ | refine t_false rfl ?_
      | ((first | refine t_cond_d rfl (fun _ => ?_) (fun _ => ?_) | refine t_cond_i rfl (fun _ => ?_) (fun _ => ?_) | refine t_cond_j rfl (fun _ => ?_) (fun _ => ?_) | refine t_cond_s rfl (fun _ => ?_) (fun _ => ?_) | refine t_cond_n rfl (fun _ => ?_) (fun _ => ?_) | refine t_cond rfl (fun _ => ?_) (fun _ => ?_) | refine c_split_d rfl rfl (fun _ => ?_) (fun _ => ?_) | refine c_split_i rfl rfl (fun _ => ?_) (fun _ => ?_) | refine c_split_j rfl rfl (fun _ => ?_) (fun _ => ?_) | refine c_split_s rfl rfl (fun _ => ?_) (fun _ => ?_) | refine c_split_n rfl rfl (fun _ => ?_) (fun _ => ?_)) <;> try (first | (rename_i hz; exact Bool.noConfusion (show true = false from hz)) | (rename_i hz; exact Bool.noConfusion (show false = true from hz)) | (exfalso; omega)))
      | refine r_val rfl rfl (by (first | omega | exact Nat.le_of_ble_eq_true rfl | (simp only [wrap_u8, IntKind.wrap_i64, IntKind.wrap_i32, wrap_u32', wrap_u64', InI]; (repeat' refine And.intro ?_ ?_) <;> omega) | ((repeat' refine And.intro ?_ ?_) <;> first | omega | rfl | exact Nat.le_refl _ | exact Nat.le_of_ble_eq_true rfl | exact bytesF_one _) | (simp_all; done) | (simp_all; omega))) ?_ | refine r_gval rfl rfl rfl rfl (by (first | omega | exact Nat.le_of_ble_eq_true rfl | (simp only [wrap_u8, IntKind.wrap_i64, IntKind.wrap_i32, wrap_u32', wrap_u64', InI]; (repeat' refine And.intro ?_ ?_) <;> omega) | ((repeat' refine And.intro ?_ ?_) <;> first | omega | rfl | exact Nat.le_refl _ | exact Nat.le_of_ble_eq_true rfl | exact bytesF_one _) | (simp_all; done) | (simp_all; omega))) ?_
      | refine r_obj rfl rfl (by (first | omega | exact Nat.le_of_ble_eq_true rfl | (simp only [wrap_u8, IntKind.wrap_i64, IntKind.wrap_i32, wrap_u32', wrap_u64', InI]; (repeat' refine And.intro ?_ ?_) <;> omega) | ((repeat' refine And.intro ?_ ?_) <;> first | omega | rfl | exact Nat.le_refl _ | exact Nat.le_of_ble_eq_true rfl | exact bytesF_one _) | (simp_all; done) | (simp_all; omega))) ?_ | refine r_sto rfl (by (first | omega | exact Nat.le_of_ble_eq_true rfl | (simp only [wrap_u8, IntKind.wrap_i64, IntKind.wrap_i32, wrap_u32', wrap_u64', InI]; (repeat' refine And.intro ?_ ?_) <;> omega) | ((repeat' refine And.intro ?_ ?_) <;> first | omega | rfl | exact Nat.le_refl _ | exact Nat.le_of_ble_eq_true rfl | exact bytesF_one _) | (simp_all; done) | (simp_all; omega))) ?_ | refine r_gobj rfl rfl rfl rfl (by (first | omega | exact Nat.le_of_ble_eq_true rfl | (simp only [wrap_u8, IntKind.wrap_i64, IntKind.wrap_i32, wrap_u32', wrap_u64', InI]; (repeat' refine And.intro ?_ ?_) <;> omega) | ((repeat' refine And.intro ?_ ?_) <;> first | omega | rfl | exact Nat.le_refl _ | exact Nat.le_of_ble_eq_true rfl | exact bytesF_one _) | (simp_all; done) | (simp_all; omega))) ?_
      | refine e_hit rfl ?_ | refine e_miss rfl ?_
      | refine ⟨by kernel_rfl, ?_⟩ | refine x_end rfl ?_ | ((with_reducible refine c_grd ?_); (fail_if_success (refine c_lit true rfl rfl rfl ?_)); (fail_if_success (refine c_lit false rfl rfl rfl ?_)); refine c_split rfl rfl (fun _ => ?_) (fun _ => ?_)))
    all_goals rfl

set_option maxHeartbeats 2000000 in
theorem ranswer_ctr (st : Int) (hs : HdrL) (b : List UInt8) (h : RspOk st hs b) : Ctr Tryd.prog 15 [.ag (rspC st hs b)] (.s (ansT st hs b.length)) := by
  have hn := h.nh
  have hb := h.nb
  have hlen := ansP_len h
  have c1 := rwhole_ctrR st h.st.1 h.st.2
  have c2 := rreason_ctr st
  have c3 := rwhole_ctrR (b.length : Nat) (by omega) (by omega)
  have l1 := itoa_lenI st h.st.1 h.st.2
  have l2 := itoa_lenI (b.length : Nat) (by omega) (by omega)
  have l3 := reason_len st
  have e0 : ((((Lib.itoa st ++ [32]) ++ reasonT st) ++ [32]) ++ Lib.itoa b.length) ++ [10] = ansP st hs b.length 0 := by
    rw [ansP_zero]
    unfold ansH
    simp
  generalize Lib.itoa st = A1 at *
  generalize Lib.itoa b.length = A2 at *
  generalize reasonT st = A3 at *
  refine r_fun Tryd.func15 rfl Tryd.ntmps15 Tryd.results15 rfl rfl fun X hL hX => ?_
  repeat' (first
    | with_reducible refine t_seq ?_ | with_reducible refine t_region ?_ | with_reducible refine c_nil ?_ | with_reducible refine n_then ?_
    | with_reducible refine t_ret ?_ | with_reducible refine t_skip ?_ | with_reducible refine t_exit ?_ | with_reducible refine t_block ?_
    | with_reducible refine n_block ?_ | with_reducible refine e_then ?_ | with_reducible refine x_then ?_ | with_reducible refine x_block ?_ | with_reducible refine t_draw ?_
    | refine r_val rfl rfl True.intro ?_ | refine r_gskip rfl rfl rfl ?_ | refine r_gskip2 rfl rfl rfl ?_ | refine r_gval rfl rfl rfl rfl True.intro ?_
    | refine t_true rfl ?_ | refine t_false rfl ?_
    | ((first | refine t_cond_d rfl (fun _ => ?_) (fun _ => ?_) | refine t_cond_i rfl (fun _ => ?_) (fun _ => ?_) | refine t_cond_j rfl (fun _ => ?_) (fun _ => ?_) | refine t_cond_s rfl (fun _ => ?_) (fun _ => ?_) | refine t_cond_n rfl (fun _ => ?_) (fun _ => ?_) | refine t_cond rfl (fun _ => ?_) (fun _ => ?_) | refine c_split_d rfl rfl (fun _ => ?_) (fun _ => ?_) | refine c_split_i rfl rfl (fun _ => ?_) (fun _ => ?_) | refine c_split_j rfl rfl (fun _ => ?_) (fun _ => ?_) | refine c_split_s rfl rfl (fun _ => ?_) (fun _ => ?_) | refine c_split_n rfl rfl (fun _ => ?_) (fun _ => ?_)) <;> try (first | (rename_i hz; exact Bool.noConfusion (show true = false from hz)) | (rename_i hz; exact Bool.noConfusion (show false = true from hz)) | (exfalso; omega)))
    | refine r_val rfl rfl (by (first | (simp only [List.length_append, List.length_cons, List.length_nil]; omega) | omega | exact Nat.le_of_ble_eq_true rfl | (simp only [wrap_u8, IntKind.wrap_i64, IntKind.wrap_i32, wrap_u32', wrap_u64', InI]; (repeat' refine And.intro ?_ ?_) <;> omega) | ((repeat' refine And.intro ?_ ?_) <;> first | omega | rfl | exact Nat.le_refl _ | exact Nat.le_of_ble_eq_true rfl | exact bytesF_one _) | (simp_all; done) | (simp_all; omega))) ?_ | refine r_gval rfl rfl rfl rfl (by (first | (simp only [List.length_append, List.length_cons, List.length_nil]; omega) | omega | exact Nat.le_of_ble_eq_true rfl | (simp only [wrap_u8, IntKind.wrap_i64, IntKind.wrap_i32, wrap_u32', wrap_u64', InI]; (repeat' refine And.intro ?_ ?_) <;> omega) | ((repeat' refine And.intro ?_ ?_) <;> first | omega | rfl | exact Nat.le_refl _ | exact Nat.le_of_ble_eq_true rfl | exact bytesF_one _) | (simp_all; done) | (simp_all; omega))) ?_
    | refine r_obj rfl rfl (by (first | (simp only [List.length_append, List.length_cons, List.length_nil]; omega) | omega | exact Nat.le_of_ble_eq_true rfl | (simp only [wrap_u8, IntKind.wrap_i64, IntKind.wrap_i32, wrap_u32', wrap_u64', InI]; (repeat' refine And.intro ?_ ?_) <;> omega) | ((repeat' refine And.intro ?_ ?_) <;> first | omega | rfl | exact Nat.le_refl _ | exact Nat.le_of_ble_eq_true rfl | exact bytesF_one _) | (simp_all; done) | (simp_all; omega))) ?_ | refine r_sto rfl (by (first | (simp only [List.length_append, List.length_cons, List.length_nil]; omega) | omega | exact Nat.le_of_ble_eq_true rfl | (simp only [wrap_u8, IntKind.wrap_i64, IntKind.wrap_i32, wrap_u32', wrap_u64', InI]; (repeat' refine And.intro ?_ ?_) <;> omega) | ((repeat' refine And.intro ?_ ?_) <;> first | omega | rfl | exact Nat.le_refl _ | exact Nat.le_of_ble_eq_true rfl | exact bytesF_one _) | (simp_all; done) | (simp_all; omega))) ?_ | refine r_gobj rfl rfl rfl rfl (by (first | (simp only [List.length_append, List.length_cons, List.length_nil]; omega) | omega | exact Nat.le_of_ble_eq_true rfl | (simp only [wrap_u8, IntKind.wrap_i64, IntKind.wrap_i32, wrap_u32', wrap_u64', InI]; (repeat' refine And.intro ?_ ?_) <;> omega) | ((repeat' refine And.intro ?_ ?_) <;> first | omega | rfl | exact Nat.le_refl _ | exact Nat.le_of_ble_eq_true rfl | exact bytesF_one _) | (simp_all; done) | (simp_all; omega))) ?_
    | refine e_hit rfl ?_ | refine e_miss rfl ?_
    | refine ⟨by kernel_rfl, ?_⟩ | refine x_end rfl ?_ | refine r_call (f := 26) rfl rfl Tryd.call26 rfl c1 ?_ | refine r_call (f := 26) rfl rfl Tryd.call26 rfl c3 ?_ | refine r_call (f := 38) rfl rfl Tryd.call38 rfl c2 ?_ | ((with_reducible refine c_grd ?_); (fail_if_success (refine c_lit true rfl rfl rfl ?_)); (fail_if_success (refine c_lit false rfl rfl rfl ?_)); refine c_split rfl rfl (fun _ => ?_) (fun _ => ?_)))
  refine T.loop hL (fun i : Nat => [(1, .pv 1 0), (3, .s (ansP st hs b.length i)), (4, .i .i64 i)]) (fun _ => [(1, .var (rspC st hs b))]) (fun i => i ≤ hs.length) (fun i => hs.length - i) 0
    (Nat.zero_le _) ⟨⟨rfl, congrArg D.s e0, rfl, trivial⟩, ⟨rfl, trivial⟩, rfl, by rw [hX]; intro k hk; cases hk⟩ ?_
  intro i g1
  by_cases hi : i < hs.length
  · have l1 := hlen i (by omega)
    obtain ⟨q1, q2⟩ := h.hs i
    have e : ((((ansP st hs b.length i ++ [32, 32]) ++ (hs.getD i ([], [])).1) ++ [58, 32]) ++ (hs.getD i ([], [])).2) ++ [10] = ansP st hs b.length (i + 1) := by
      rw [ansP_succ st hs b.length hi]
      unfold hedT
      simp
    repeat' (first
      | with_reducible refine t_seq ?_ | with_reducible refine t_region ?_ | with_reducible refine c_nil ?_ | with_reducible refine n_then ?_
      | with_reducible refine t_ret ?_ | with_reducible refine t_skip ?_ | with_reducible refine t_exit ?_ | with_reducible refine t_block ?_
      | with_reducible refine n_block ?_ | with_reducible refine e_then ?_ | with_reducible refine x_then ?_ | with_reducible refine x_block ?_ | with_reducible refine t_draw ?_
      | refine r_val rfl rfl True.intro ?_ | refine r_gskip rfl rfl rfl ?_ | refine r_gskip2 rfl rfl rfl ?_ | refine r_gval rfl rfl rfl rfl True.intro ?_
      | refine t_true rfl ?_ | refine t_false rfl ?_
      | ((first | refine t_cond_d rfl (fun _ => ?_) (fun _ => ?_) | refine t_cond_i rfl (fun _ => ?_) (fun _ => ?_) | refine t_cond_j rfl (fun _ => ?_) (fun _ => ?_) | refine t_cond_s rfl (fun _ => ?_) (fun _ => ?_) | refine t_cond_n rfl (fun _ => ?_) (fun _ => ?_) | refine t_cond rfl (fun _ => ?_) (fun _ => ?_) | refine c_split_d rfl rfl (fun _ => ?_) (fun _ => ?_) | refine c_split_i rfl rfl (fun _ => ?_) (fun _ => ?_) | refine c_split_j rfl rfl (fun _ => ?_) (fun _ => ?_) | refine c_split_s rfl rfl (fun _ => ?_) (fun _ => ?_) | refine c_split_n rfl rfl (fun _ => ?_) (fun _ => ?_)) <;> try (first | (rename_i hz; exact Bool.noConfusion (show true = false from hz)) | (rename_i hz; exact Bool.noConfusion (show false = true from hz)) | (exfalso; omega)))
      | refine r_val rfl rfl (by (first | (simp only [Int.toNat_natCast, List.length_append, List.length_cons, List.length_nil]; omega) | omega | exact Nat.le_of_ble_eq_true rfl | (simp only [wrap_u8, IntKind.wrap_i64, IntKind.wrap_i32, wrap_u32', wrap_u64', InI]; (repeat' refine And.intro ?_ ?_) <;> omega) | ((repeat' refine And.intro ?_ ?_) <;> first | omega | rfl | exact Nat.le_refl _ | exact Nat.le_of_ble_eq_true rfl | exact bytesF_one _) | (simp_all; done) | (simp_all; omega))) ?_ | refine r_gval rfl rfl rfl rfl (by (first | (simp only [Int.toNat_natCast, List.length_append, List.length_cons, List.length_nil]; omega) | omega | exact Nat.le_of_ble_eq_true rfl | (simp only [wrap_u8, IntKind.wrap_i64, IntKind.wrap_i32, wrap_u32', wrap_u64', InI]; (repeat' refine And.intro ?_ ?_) <;> omega) | ((repeat' refine And.intro ?_ ?_) <;> first | omega | rfl | exact Nat.le_refl _ | exact Nat.le_of_ble_eq_true rfl | exact bytesF_one _) | (simp_all; done) | (simp_all; omega))) ?_
      | refine r_obj rfl rfl (by (first | (simp only [Int.toNat_natCast, List.length_append, List.length_cons, List.length_nil]; omega) | omega | exact Nat.le_of_ble_eq_true rfl | (simp only [wrap_u8, IntKind.wrap_i64, IntKind.wrap_i32, wrap_u32', wrap_u64', InI]; (repeat' refine And.intro ?_ ?_) <;> omega) | ((repeat' refine And.intro ?_ ?_) <;> first | omega | rfl | exact Nat.le_refl _ | exact Nat.le_of_ble_eq_true rfl | exact bytesF_one _) | (simp_all; done) | (simp_all; omega))) ?_ | refine r_sto rfl (by (first | (simp only [Int.toNat_natCast, List.length_append, List.length_cons, List.length_nil]; omega) | omega | exact Nat.le_of_ble_eq_true rfl | (simp only [wrap_u8, IntKind.wrap_i64, IntKind.wrap_i32, wrap_u32', wrap_u64', InI]; (repeat' refine And.intro ?_ ?_) <;> omega) | ((repeat' refine And.intro ?_ ?_) <;> first | omega | rfl | exact Nat.le_refl _ | exact Nat.le_of_ble_eq_true rfl | exact bytesF_one _) | (simp_all; done) | (simp_all; omega))) ?_ | refine r_gobj rfl rfl rfl rfl (by (first | (simp only [Int.toNat_natCast, List.length_append, List.length_cons, List.length_nil]; omega) | omega | exact Nat.le_of_ble_eq_true rfl | (simp only [wrap_u8, IntKind.wrap_i64, IntKind.wrap_i32, wrap_u32', wrap_u64', InI]; (repeat' refine And.intro ?_ ?_) <;> omega) | ((repeat' refine And.intro ?_ ?_) <;> first | omega | rfl | exact Nat.le_refl _ | exact Nat.le_of_ble_eq_true rfl | exact bytesF_one _) | (simp_all; done) | (simp_all; omega))) ?_
      | refine e_hit rfl ?_ | refine e_miss rfl ?_
      | refine ⟨by kernel_rfl, ?_⟩ | refine x_end rfl ?_ | ((with_reducible refine c_grd ?_); (fail_if_success (refine c_lit true rfl rfl rfl ?_)); (fail_if_success (refine c_lit false rfl rfl rfl ?_)); refine c_split rfl rfl (fun _ => ?_) (fun _ => ?_)))
    all_goals exact ⟨i + 1, by omega, by omega, ⟨rfl, congrArg D.s e, rfl, trivial⟩, ⟨rfl, trivial⟩, rfl, by rw [hX]; intro k hk; cases hk⟩
  · obtain rfl : i = hs.length := by omega
    repeat' (first
      | with_reducible refine t_seq ?_ | with_reducible refine t_region ?_ | with_reducible refine c_nil ?_ | with_reducible refine n_then ?_
      | with_reducible refine t_ret ?_ | with_reducible refine t_skip ?_ | with_reducible refine t_exit ?_ | with_reducible refine t_block ?_
      | with_reducible refine n_block ?_ | with_reducible refine e_then ?_ | with_reducible refine x_then ?_ | with_reducible refine x_block ?_ | with_reducible refine t_draw ?_
      | refine r_val rfl rfl True.intro ?_ | refine r_gskip rfl rfl rfl ?_ | refine r_gskip2 rfl rfl rfl ?_ | refine r_gval rfl rfl rfl rfl True.intro ?_
      | refine t_true rfl ?_ | refine t_false rfl ?_
      | ((first | refine t_cond_d rfl (fun _ => ?_) (fun _ => ?_) | refine t_cond_i rfl (fun _ => ?_) (fun _ => ?_) | refine t_cond_j rfl (fun _ => ?_) (fun _ => ?_) | refine t_cond_s rfl (fun _ => ?_) (fun _ => ?_) | refine t_cond_n rfl (fun _ => ?_) (fun _ => ?_) | refine t_cond rfl (fun _ => ?_) (fun _ => ?_) | refine c_split_d rfl rfl (fun _ => ?_) (fun _ => ?_) | refine c_split_i rfl rfl (fun _ => ?_) (fun _ => ?_) | refine c_split_j rfl rfl (fun _ => ?_) (fun _ => ?_) | refine c_split_s rfl rfl (fun _ => ?_) (fun _ => ?_) | refine c_split_n rfl rfl (fun _ => ?_) (fun _ => ?_)) <;> try (first | (rename_i hz; exact Bool.noConfusion (show true = false from hz)) | (rename_i hz; exact Bool.noConfusion (show false = true from hz)) | (exfalso; omega)))
      | refine r_val rfl rfl (by (first | omega | exact Nat.le_of_ble_eq_true rfl | (simp only [wrap_u8, IntKind.wrap_i64, IntKind.wrap_i32, wrap_u32', wrap_u64', InI]; (repeat' refine And.intro ?_ ?_) <;> omega) | ((repeat' refine And.intro ?_ ?_) <;> first | omega | rfl | exact Nat.le_refl _ | exact Nat.le_of_ble_eq_true rfl | exact bytesF_one _) | (simp_all; done) | (simp_all; omega))) ?_ | refine r_gval rfl rfl rfl rfl (by (first | omega | exact Nat.le_of_ble_eq_true rfl | (simp only [wrap_u8, IntKind.wrap_i64, IntKind.wrap_i32, wrap_u32', wrap_u64', InI]; (repeat' refine And.intro ?_ ?_) <;> omega) | ((repeat' refine And.intro ?_ ?_) <;> first | omega | rfl | exact Nat.le_refl _ | exact Nat.le_of_ble_eq_true rfl | exact bytesF_one _) | (simp_all; done) | (simp_all; omega))) ?_
      | refine r_obj rfl rfl (by (first | omega | exact Nat.le_of_ble_eq_true rfl | (simp only [wrap_u8, IntKind.wrap_i64, IntKind.wrap_i32, wrap_u32', wrap_u64', InI]; (repeat' refine And.intro ?_ ?_) <;> omega) | ((repeat' refine And.intro ?_ ?_) <;> first | omega | rfl | exact Nat.le_refl _ | exact Nat.le_of_ble_eq_true rfl | exact bytesF_one _) | (simp_all; done) | (simp_all; omega))) ?_ | refine r_sto rfl (by (first | omega | exact Nat.le_of_ble_eq_true rfl | (simp only [wrap_u8, IntKind.wrap_i64, IntKind.wrap_i32, wrap_u32', wrap_u64', InI]; (repeat' refine And.intro ?_ ?_) <;> omega) | ((repeat' refine And.intro ?_ ?_) <;> first | omega | rfl | exact Nat.le_refl _ | exact Nat.le_of_ble_eq_true rfl | exact bytesF_one _) | (simp_all; done) | (simp_all; omega))) ?_ | refine r_gobj rfl rfl rfl rfl (by (first | omega | exact Nat.le_of_ble_eq_true rfl | (simp only [wrap_u8, IntKind.wrap_i64, IntKind.wrap_i32, wrap_u32', wrap_u64', InI]; (repeat' refine And.intro ?_ ?_) <;> omega) | ((repeat' refine And.intro ?_ ?_) <;> first | omega | rfl | exact Nat.le_refl _ | exact Nat.le_of_ble_eq_true rfl | exact bytesF_one _) | (simp_all; done) | (simp_all; omega))) ?_
      | refine e_hit rfl ?_ | refine e_miss rfl ?_
      | refine ⟨by kernel_rfl, ?_⟩ | refine x_end rfl ?_ | ((with_reducible refine c_grd ?_); (fail_if_success (refine c_lit true rfl rfl rfl ?_)); (fail_if_success (refine c_lit false rfl rfl rfl ?_)); refine c_split rfl rfl (fun _ => ?_) (fun _ => ?_)))
    all_goals rfl

end Go.Proofs.YtinjdlckhmkmaaaDoor.Flow

/-
  FLOW, PART X: several objects lent to a callee that leaves them as they are; a new variable under a name of one's own.
-/
namespace Go.Proofs.YtinjdlckhmkmaaaDoor.Flow
open Go

theorem updO_stays {O : Nat → Option Own} : ∀ {lo : Ow}, hasAll O lo → updO O lo = O
  | [], _ => rfl
  | (k, o) :: r, h => by
    have e : (fun j => if j = k then some o else O j) = O := by
      funext j
      by_cases hj : j = k
      · subst hj
        rw [if_pos rfl]
        exact h.1.symm
      · rw [if_neg hj]
    show updO (fun j => if j = k then some o else O j) r = O
    rw [e]
    exact updO_stays h.2

theorem hasAll_congr {O O' : Nat → Option Own} : ∀ {lo : Ow}, hasAll O lo → (∀ j ∈ lo.map (·.1), O' j = O j) → hasAll O' lo
  | [], _, _ => trivial
  | (k, o) :: r, h, hc => ⟨(hc k (by simp)).trans h.1, hasAll_congr h.2 fun j hj => hc j (by simp at hj ⊢; exact .inr hj)⟩

theorem lendM_read {P : Program} {X : Ctx} {n : Nat} {fr : Fr} {ow : Ow} {d : D} {o : Oper} {f : FuncId} {args : List D} {lo : Ow} {ids : List Nat} (hP : ∀ vs w, (callFunc f vs).run P w = .ok (.enter f vs) w) (hc : callOf fr o.op = some (f, args)) (hk : hasAll (fun k => look k ow) lo)
    (hi : lo.map (·.1) = ids) (hnd : ids.Nodup) (hok : (args.map (lendA ids)).all (D.okIn ids) = true) (hf1 : lo.all (fun x => x.2.okIn ids) = true) (hf3 : d.okIn ids = true)
    (hC : CtrO P f (args.map (lendA ids)) lo d lo) (hd : dstOk o.dst n) :
    ∀ F' O', (∀ x ∈ o.op.operands.toList, evF F' x = evF (fF fr) x) → (∀ j ∈ ids, O' j = fO ow j) → StepAt P X n o F' O' d [] := by
  intro F' O' he hO
  have h := lendM_step (X := X) (n := n) hP hc hk hi hi hnd hok hf1 hf1 hf3 hC hd F' O' he hO
  have e : updO O' lo = updO O' [] := updO_stays (hasAll_congr hk fun j hj => hO j (by rw [← hi]; exact hj))
  unfold StepAt at h ⊢
  rw [e] at h
  exact h

theorem var_step {P : Program} {X : Ctx} {n : Nat} {o : Oper} {fr : Fr} {ow : Ow} {ty : TypeId} {k : Nat} {B' : Tb} {zd : D} (hB : tb P = B') (ho : o.op = .alloc ty) (hz : B'.zr ty = some zd) (hs : zd.solid = true) (h1 : zd.cells.all D.one = true) (hk : look k ow = none) (hd : dstOk o.dst n) :
    ∀ F' O', (∀ y ∈ o.op.operands.toList, evF F' y = evF (fF fr) y) → (∀ j ∈ [k], O' j = fO ow j) → StepAt P X n o F' O' (.pv k 0) [(k, .var zd.cells)] := by
  intro F' O' he hO
  have hz' : zeroD P ty = some zd := by subst hB; exact hz
  obtain ⟨i, zv, g1, g2, g3⟩ := zeroD_spec hz'
  refine stepAt_of hd fun a w S r hH hI hr => ?_
  have hk' : O' k = none := (hO k (by simp)).trans hk
  have hv := ofVal_rel S w r zv
  rw [← g3] at hv
  obtain ⟨S', r', q1, q2, q3, q4, q5, q6⟩ := box_ok ty hH hI hv hs h1 hk'
  refine ⟨_, _, S', r', .inl ?_, q1, q2, q3, q4, q5, q6⟩
  simp [execOp, ho, Instr.alloc, zeroValue, typeInfo, g1, g2, newVar, newRow]

section
variable {X : Ctx} {n : Nat} {all rest : List Oper} {fr : Fr} {ow : Ow} {tr : List (List Nat × List Nat)} {K : Fr → Ow → List (List Nat × List Nat) → Prop}
variable {t k : Nat} {op : Op} {ty ty' : TypeId} {ps : String} {af : Array Edge} {d : D} {f : FuncId} {args : List D} {g u : Nat} {want : Bool}

/-- Objects lent to a callee that leaves them as they are. -/
theorem r_lendR (lo : Ow) (ids : List Nat) (hi : lo.map (·.1) = ids) (hnd : ids.Nodup) (hc : callOf fr op = some (f, args)) (hn : Nat.blt t n = true) (hP : ∀ vs w, (callFunc f vs).run Tryd.prog w = .ok (.enter f vs) w) (hk : hasAll (fun k => look k ow) lo)
    (hok : (args.map (lendA ids)).all (D.okIn ids) = true) (hf1 : lo.all (fun x => x.2.okIn ids) = true) (hf3 : d.okIn ids = true)
    (hC : CtrO Tryd.prog f (args.map (lendA ids)) lo d lo)
    (h : CT Tryd.prog X n all rest ((t, d) :: fr) ow (tr ++ [(ids, [])]) K) : CT Tryd.prog X n all (⟨some t, op, ty, ps, af, none⟩ :: rest) fr ow tr K :=
  CT.cons (e := ⟨d, ids, []⟩) (.plain rfl (lendM_read (o := ⟨some t, op, ty, ps, af, none⟩) (ow := ow) hP hc hk hi hnd hok hf1 hf3 hC (show t < n by simpa using hn))) (fF_cons ..) rfl h

theorem var_aux {zd : D} (k : Nat) (o : Oper) (ho : o.op = .alloc ty) (hg : o.guard = none) (hds : o.dst = some t) (hz : B.zr ty = some zd) (hs : zd.solid = true) (h1 : zd.cells.all D.one = true) (hk : look k ow = none) (hn : Nat.blt t n = true)
    (h : CT Tryd.prog X n all rest ((t, .pv k 0) :: fr) ((k, .var zd.cells) :: ow) (tr ++ [([k], [k])]) K) : CT Tryd.prog X n all (o :: rest) fr ow tr K := by
  have e := tb_eq
  have h1' := @var_step Tryd.prog X n o fr ow ty k B zd e ho hz hs h1 hk (by rw [hds]; exact Nat.le_of_ble_eq_true hn)
  refine CT.cons (e := ⟨.pv k 0, [k], [(k, .var zd.cells)]⟩) (.plain hg h1') ?_ (fO_cons ..) h
  rw [hds]
  exact fF_cons ..

/-- A new variable under a name of one's own. -/
theorem r_varAt {zd : D} (k : Nat) (hz : B.zr ty = some zd) (hs : zd.solid = true) (h1 : zd.cells.all D.one = true) (hk : look k ow = none) (hn : Nat.blt t n = true)
    (h : CT Tryd.prog X n all rest ((t, .pv k 0) :: fr) ((k, .var zd.cells) :: ow) (tr ++ [([k], [k])]) K) : CT Tryd.prog X n all (⟨some t, .alloc ty, ty', ps, af, none⟩ :: rest) fr ow tr K := by
  generalize ho : (⟨some t, .alloc ty, ty', ps, af, none⟩ : Oper) = o
  exact var_aux k o (by rw [← ho]) (by rw [← ho]) (by rw [← ho]) hz hs h1 hk hn h
end

end Go.Proofs.YtinjdlckhmkmaaaDoor.Flow

/- REPORT: an archive's numbers, by both. -/
namespace Go.Proofs.YtinjdlckhmkmaaaDoor.Flow
open Go

/-- So many bytes from a place on, the lowest first. -/
def leN (b : List UInt8) (p : Nat) : Nat → Nat
  | 0 => 0
  | n + 1 => leN b p n + (b.getD (p + n) 0).toNat * 256 ^ n

theorem leN_lt (b : List UInt8) (p : Nat) : ∀ n, leN b p n < 256 ^ n
  | 0 => by simp [leN]
  | n + 1 => by
    have h := leN_lt b p n
    have h2 := (b.getD (p + n) 0).toNat_lt
    unfold leN
    rw [Nat.pow_succ]
    generalize 256 ^ n = q at *
    have h3 : (b.getD (p + n) 0).toNat * q ≤ 255 * q := Nat.mul_le_mul_right _ (by omega)
    omega

theorem leN_lt8 (b : List UInt8) (p n : Nat) (hn : n ≤ 8) : leN b p n < 18446744073709551616 :=
  Nat.lt_of_lt_of_le (leN_lt b p n) (Nat.le_trans (Nat.pow_le_pow_right (by decide) hn) (by decide))

/-- From the top down. -/
def leT (b : List UInt8) (p n : Nat) : Nat → Nat
  | 0 => 0
  | k + 1 => 256 * leT b p n k + (b.getD (p + (n - 1 - k)) 0).toNat

theorem leT_spec (b : List UInt8) (p n : Nat) : ∀ k, k ≤ n → leN b p n = leN b p (n - k) + leT b p n k * 256 ^ (n - k)
  | 0, _ => by simp [leT]
  | k + 1, h => by
    rw [leT_spec b p n k (by omega)]
    have e : n - k = (n - (k + 1)) + 1 := by omega
    rw [e]
    show leN b p (n - (k + 1)) + (b.getD (p + (n - (k + 1))) 0).toNat * 256 ^ (n - (k + 1)) + _ = _
    rw [show leT b p n (k + 1) = 256 * leT b p n k + (b.getD (p + (n - 1 - k)) 0).toNat from rfl, show n - 1 - k = n - (k + 1) by omega, Nat.pow_succ, Nat.add_mul, Nat.mul_comm 256 (leT b p n k), Nat.mul_assoc, Nat.mul_comm 256 (256 ^ _)]
    omega

theorem leT_all (b : List UInt8) (p n : Nat) : leT b p n n = leN b p n := by
  rw [leT_spec b p n n (Nat.le_refl n)]
  simp [leN]

theorem leT_lt (b : List UInt8) (p n : Nat) (k : Nat) : leT b p n k < 256 ^ k := by
  induction k with
  | zero => simp [leT]
  | succ k ih =>
    have h2 := (b.getD (p + (n - 1 - k)) 0).toNat_lt
    unfold leT
    rw [Nat.pow_succ]
    omega

/-- .. of four bytes, with a sign. -/
def sg4 (b : List UInt8) (p : Nat) : Int := if leN b p 4 ≥ 2147483648 then (leN b p 4 : Int) - 4294967296 else leN b p 4

theorem or_shift (v c j : Nat) (hv : v < 256 ^ j) (hj : j < 8) (hc : c < 256) : bits .or .u64 (v : Int) (IntKind.u64.wrap ((c : Int) * 2 ^ (8 * (j : Int)).toNat)) = ((v + c * 256 ^ j : Nat) : Int) := by
  have e1 : ((2 : Int) ^ (8 * (j : Int)).toNat) = ((256 ^ j : Nat) : Int) := by
    rw [show (8 * (j : Int)).toNat = 8 * j by omega, Int.natCast_pow]
    rw [show ((256 : Nat) : Int) = (2 : Int) ^ 8 from rfl, ← Int.pow_mul]
  have hp : (256 : Nat) ^ j ≤ 256 ^ 7 := Nat.pow_le_pow_right (by decide) (by omega)
  have hp2 : (256 : Nat) ^ 7 = 72057594037927936 := by decide
  have hm : c * 256 ^ j ≤ 255 * 256 ^ j := Nat.mul_le_mul_right _ (by omega)
  have hlt : c * 256 ^ j < 18446744073709551616 := by omega
  rw [e1, ← Int.natCast_mul, wrap_u64']
  rw [show (((c * 256 ^ j : Nat) : Int)) % 18446744073709551616 = ((c * 256 ^ j : Nat) : Int) by omega]
  have h := (bits_nat .u64 64 (by decide) wraps_u64 v (c * 256 ^ j) (by omega) (by omega)).2
  rw [h]
  congr 1
  have e256 : (256 : Nat) ^ j = 2 ^ (8 * j) := by rw [show (256 : Nat) = 2 ^ 8 from rfl, ← Nat.pow_mul]
  rw [e256] at hv ⊢
  rw [Nat.mul_comm c, Nat.or_comm, Nat.add_comm]
  exact (Nat.two_pow_add_eq_or_of_lt hv c).symm

end Go.Proofs.YtinjdlckhmkmaaaDoor.Flow
