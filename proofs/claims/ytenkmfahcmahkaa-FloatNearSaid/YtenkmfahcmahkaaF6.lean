import Derived.Test.YtenkmfahcmahkaaF5
/- FLOAT: right decimals; a decimal as one number by another; a fraction held against a number. -/
namespace Go.Proofs.Ytenkmfahcmahkaa.Flow
open Go

/-- A decimal's cells. -/
abbrev dcD (neg : Bool) (s : List UInt8) (e : Int) : D := .ag [.b neg, .s s, .i .i64 e]

def digC (c : Int) : Prop := 48 ≤ c ∧ c ≤ 57
def digs (s : List UInt8) : Prop := ∀ i : Nat, i < s.length → 48 ≤ at' s i ∧ at' s i ≤ 57

/-- Is a decimal right? -/
def RightP (neg : Bool) (s : List UInt8) (e : Int) : Prop :=
  if s.length = 0 then neg = false ∧ e = 0
  else digs s ∧ s.length ≤ 100 ∧ ¬ at' s 0 = 48 ∧ ¬ at' s (s.length - 1) = 48 ∧ -1000 ≤ e ∧ e ≤ 1000

instance (s : List UInt8) : Decidable (digs s) := by
  unfold digs
  infer_instance
instance (neg : Bool) (s : List UInt8) (e : Int) : Decidable (RightP neg s e) := by
  unfold RightP
  infer_instance

def rightB (neg : Bool) (s : List UInt8) (e : Int) : Bool := decide (RightP neg s e)

theorem rightB_iff {neg : Bool} {s : List UInt8} {e : Int} : rightB neg s e = true ↔ RightP neg s e := by unfold rightB; exact decide_eq_true_iff
theorem rightB_not {neg : Bool} {s : List UInt8} {e : Int} (h : ¬ RightP neg s e) : rightB neg s e = false := by
  rw [← Bool.not_eq_true, rightB_iff]
  exact h
theorem rightB_eq {neg : Bool} {s : List UInt8} {e : Int} {b : Bool} (h : b = true ↔ RightP neg s e) : D.b b = .b (rightB neg s e) := by
  congr 1
  rw [Bool.eq_iff_iff, h, rightB_iff]

theorem right_nil {neg : Bool} {s : List UInt8} {e : Int} (h : s.length = 0) : RightP neg s e ↔ neg = false ∧ e = 0 := by unfold RightP; rw [if_pos h]
theorem right_cons {neg : Bool} {s : List UInt8} {e : Int} (h : ¬ s.length = 0) : RightP neg s e ↔ digs s ∧ s.length ≤ 100 ∧ ¬ at' s 0 = 48 ∧ ¬ at' s (s.length - 1) = 48 ∧ -1000 ≤ e ∧ e ≤ 1000 := by unfold RightP; rw [if_neg h]

theorem len_nil {s : List UInt8} (h : s.length = 0) : s = [] := List.length_eq_zero_iff.1 h

set_option maxHeartbeats 1000000 in
theorem right_ctr (neg : Bool) (s : List UInt8) (e : Int) (hs : s.length ≤ 1099511627776) : Ctr Try.prog 18 [dcD neg s e] (.b (rightB neg s e)) := by
  refine r_fun Try.func18 rfl Try.ntmps18 Try.results18 rfl rfl fun X hL hX => ?_
  repeat' (first
    | with_reducible refine t_seq ?_ | with_reducible refine t_region ?_ | with_reducible refine c_nil ?_ | with_reducible refine n_then ?_
    | with_reducible refine t_ret ?_ | with_reducible refine t_skip ?_ | with_reducible refine t_exit ?_ | with_reducible refine t_block ?_
    | with_reducible refine n_block ?_ | with_reducible refine e_then ?_ | with_reducible refine x_then ?_ | with_reducible refine x_block ?_ | with_reducible refine t_draw ?_
    | refine r_val rfl rfl True.intro ?_ | refine r_gskip rfl rfl rfl ?_ | refine r_gskip2 rfl rfl rfl ?_ | refine r_gval rfl rfl rfl rfl True.intro ?_
    | refine t_true rfl ?_ | refine t_false rfl ?_
    | ((first | refine t_cond_d rfl (fun _ => ?_) (fun _ => ?_) | refine t_cond_i rfl (fun _ => ?_) (fun _ => ?_) | refine t_cond_j rfl (fun _ => ?_) (fun _ => ?_) | refine t_cond_s rfl (fun _ => ?_) (fun _ => ?_) | refine t_cond_n rfl (fun _ => ?_) (fun _ => ?_) | refine t_cond rfl (fun _ => ?_) (fun _ => ?_) | refine c_split_d rfl rfl (fun _ => ?_) (fun _ => ?_) | refine c_split_i rfl rfl (fun _ => ?_) (fun _ => ?_) | refine c_split_j rfl rfl (fun _ => ?_) (fun _ => ?_) | refine c_split_s rfl rfl (fun _ => ?_) (fun _ => ?_) | refine c_split_n rfl rfl (fun _ => ?_) (fun _ => ?_)) <;> try (first | contradiction | (exfalso; omega)))
    | refine r_val rfl rfl (by (first | omega | exact Nat.le_of_ble_eq_true rfl | (simp only [wrap_u8, IntKind.wrap_i64, IntKind.wrap_i32, wrap_u32', wrap_u64', InI]; (repeat' refine And.intro ?_ ?_) <;> omega) | ((repeat' refine And.intro ?_ ?_) <;> first | omega | rfl | exact Nat.le_refl _ | exact Nat.le_of_ble_eq_true rfl | exact bytesF_one _) | (simp_all; done) | (simp_all; omega))) ?_ | refine r_gval rfl rfl rfl rfl (by (first | omega | exact Nat.le_of_ble_eq_true rfl | (simp only [wrap_u8, IntKind.wrap_i64, IntKind.wrap_i32, wrap_u32', wrap_u64', InI]; (repeat' refine And.intro ?_ ?_) <;> omega) | ((repeat' refine And.intro ?_ ?_) <;> first | omega | rfl | exact Nat.le_refl _ | exact Nat.le_of_ble_eq_true rfl | exact bytesF_one _) | (simp_all; done) | (simp_all; omega))) ?_
    | refine r_obj rfl rfl (by (first | omega | exact Nat.le_of_ble_eq_true rfl | (simp only [wrap_u8, IntKind.wrap_i64, IntKind.wrap_i32, wrap_u32', wrap_u64', InI]; (repeat' refine And.intro ?_ ?_) <;> omega) | ((repeat' refine And.intro ?_ ?_) <;> first | omega | rfl | exact Nat.le_refl _ | exact Nat.le_of_ble_eq_true rfl | exact bytesF_one _) | (simp_all; done) | (simp_all; omega))) ?_ | refine r_sto rfl (by (first | omega | exact Nat.le_of_ble_eq_true rfl | (simp only [wrap_u8, IntKind.wrap_i64, IntKind.wrap_i32, wrap_u32', wrap_u64', InI]; (repeat' refine And.intro ?_ ?_) <;> omega) | ((repeat' refine And.intro ?_ ?_) <;> first | omega | rfl | exact Nat.le_refl _ | exact Nat.le_of_ble_eq_true rfl | exact bytesF_one _) | (simp_all; done) | (simp_all; omega))) ?_ | refine r_gobj rfl rfl rfl rfl (by (first | omega | exact Nat.le_of_ble_eq_true rfl | (simp only [wrap_u8, IntKind.wrap_i64, IntKind.wrap_i32, wrap_u32', wrap_u64', InI]; (repeat' refine And.intro ?_ ?_) <;> omega) | ((repeat' refine And.intro ?_ ?_) <;> first | omega | rfl | exact Nat.le_refl _ | exact Nat.le_of_ble_eq_true rfl | exact bytesF_one _) | (simp_all; done) | (simp_all; omega))) ?_
    | refine e_hit rfl ?_ | refine e_miss rfl ?_
    | refine ⟨by kernel_rfl, ?_⟩ | refine x_end rfl ?_ | ((with_reducible refine c_grd ?_); (fail_if_success (refine c_lit true rfl rfl rfl ?_)); (fail_if_success (refine c_lit false rfl rfl rfl ?_)); refine c_split rfl rfl (fun _ => ?_) (fun _ => ?_)))
  · rename_i h0
    refine rightB_eq ?_
    rw [right_nil (by omega), len_nil (show s.length = 0 by omega)]
    simp
  rename_i h0
  have h0 : ¬ s.length = 0 := by omega
  refine T.loop hL (fun i : Nat => [(1, .pv 1 0), (3, .i .i64 s.length), (13, .i .i64 s.length), (14, .i .i64 i)]) (fun _ => [(1, .var [.b neg, .s s, .i .i64 e])]) (fun i => i ≤ s.length ∧ ∀ j : Nat, j < i → 48 ≤ at' s j ∧ at' s j ≤ 57) (fun i => s.length - i) 0
    ⟨Nat.zero_le _, fun j hj => absurd hj (Nat.not_lt_zero _)⟩ ⟨⟨rfl, rfl, rfl, rfl, trivial⟩, ⟨rfl, trivial⟩, rfl, by rw [hX]; intro k hk; cases hk⟩ ?_
  rintro i ⟨g1, g2⟩
  repeat' (first
    | with_reducible refine t_seq ?_ | with_reducible refine t_region ?_ | with_reducible refine c_nil ?_ | with_reducible refine n_then ?_
    | with_reducible refine t_ret ?_ | with_reducible refine t_skip ?_ | with_reducible refine t_exit ?_ | with_reducible refine t_block ?_
    | with_reducible refine n_block ?_ | with_reducible refine e_then ?_ | with_reducible refine x_then ?_ | with_reducible refine x_block ?_ | with_reducible refine t_draw ?_
    | refine r_val rfl rfl True.intro ?_ | refine r_gskip rfl rfl rfl ?_ | refine r_gskip2 rfl rfl rfl ?_ | refine r_gval rfl rfl rfl rfl True.intro ?_
    | refine t_true rfl ?_ | refine t_false rfl ?_
    | ((first | refine t_cond_d rfl (fun _ => ?_) (fun _ => ?_) | refine t_cond_i rfl (fun _ => ?_) (fun _ => ?_) | refine t_cond_j rfl (fun _ => ?_) (fun _ => ?_) | refine t_cond_s rfl (fun _ => ?_) (fun _ => ?_) | refine t_cond_n rfl (fun _ => ?_) (fun _ => ?_) | refine t_cond rfl (fun _ => ?_) (fun _ => ?_) | refine c_split_d rfl rfl (fun _ => ?_) (fun _ => ?_) | refine c_split_i rfl rfl (fun _ => ?_) (fun _ => ?_) | refine c_split_j rfl rfl (fun _ => ?_) (fun _ => ?_) | refine c_split_s rfl rfl (fun _ => ?_) (fun _ => ?_) | refine c_split_n rfl rfl (fun _ => ?_) (fun _ => ?_)) <;> try (first | contradiction | (exfalso; omega)))
    | refine r_val rfl rfl (by (first | omega | exact Nat.le_of_ble_eq_true rfl | (simp only [wrap_u8, IntKind.wrap_i64, IntKind.wrap_i32, wrap_u32', wrap_u64', InI]; (repeat' refine And.intro ?_ ?_) <;> omega) | ((repeat' refine And.intro ?_ ?_) <;> first | omega | rfl | exact Nat.le_refl _ | exact Nat.le_of_ble_eq_true rfl | exact bytesF_one _) | (simp_all; done) | (simp_all; omega))) ?_ | refine r_gval rfl rfl rfl rfl (by (first | omega | exact Nat.le_of_ble_eq_true rfl | (simp only [wrap_u8, IntKind.wrap_i64, IntKind.wrap_i32, wrap_u32', wrap_u64', InI]; (repeat' refine And.intro ?_ ?_) <;> omega) | ((repeat' refine And.intro ?_ ?_) <;> first | omega | rfl | exact Nat.le_refl _ | exact Nat.le_of_ble_eq_true rfl | exact bytesF_one _) | (simp_all; done) | (simp_all; omega))) ?_
    | refine r_obj rfl rfl (by (first | omega | exact Nat.le_of_ble_eq_true rfl | (simp only [wrap_u8, IntKind.wrap_i64, IntKind.wrap_i32, wrap_u32', wrap_u64', InI]; (repeat' refine And.intro ?_ ?_) <;> omega) | ((repeat' refine And.intro ?_ ?_) <;> first | omega | rfl | exact Nat.le_refl _ | exact Nat.le_of_ble_eq_true rfl | exact bytesF_one _) | (simp_all; done) | (simp_all; omega))) ?_ | refine r_sto rfl (by (first | omega | exact Nat.le_of_ble_eq_true rfl | (simp only [wrap_u8, IntKind.wrap_i64, IntKind.wrap_i32, wrap_u32', wrap_u64', InI]; (repeat' refine And.intro ?_ ?_) <;> omega) | ((repeat' refine And.intro ?_ ?_) <;> first | omega | rfl | exact Nat.le_refl _ | exact Nat.le_of_ble_eq_true rfl | exact bytesF_one _) | (simp_all; done) | (simp_all; omega))) ?_ | refine r_gobj rfl rfl rfl rfl (by (first | omega | exact Nat.le_of_ble_eq_true rfl | (simp only [wrap_u8, IntKind.wrap_i64, IntKind.wrap_i32, wrap_u32', wrap_u64', InI]; (repeat' refine And.intro ?_ ?_) <;> omega) | ((repeat' refine And.intro ?_ ?_) <;> first | omega | rfl | exact Nat.le_refl _ | exact Nat.le_of_ble_eq_true rfl | exact bytesF_one _) | (simp_all; done) | (simp_all; omega))) ?_
    | refine e_hit rfl ?_ | refine e_miss rfl ?_
    | refine ⟨by kernel_rfl, ?_⟩ | refine x_end rfl ?_ | ((with_reducible refine c_grd ?_); (fail_if_success (refine c_lit true rfl rfl rfl ?_)); (fail_if_success (refine c_lit false rfl rfl rfl ?_)); refine c_split rfl rfl (fun _ => ?_) (fun _ => ?_)))
  · exact rightB_eq (iff_of_false (by simp) (by rw [right_cons h0]; rintro ⟨h1, _⟩; have := h1 i (by omega); omega))
  · exact rightB_eq (iff_of_false (by simp) (by rw [right_cons h0]; rintro ⟨h1, _⟩; have := h1 i (by omega); omega))
  · refine ⟨i + 1, ⟨by omega, fun j hj => ?_⟩, by omega, ⟨rfl, rfl, rfl, rfl, trivial⟩, ⟨rfl, trivial⟩, rfl, by rw [hX]; intro k hk; cases hk⟩
    by_cases hji : j = i
    · subst hji
      exact ⟨by omega, by omega⟩
    · exact g2 j (by omega)
  · refine rightB_eq ?_
    rw [right_cons h0, decide_eq_true_iff]
    exact ⟨fun h => ⟨fun j hj => g2 j (by omega), by omega, ‹_›, ‹_›, ‹_›, h⟩, fun h => h.2.2.2.2.2⟩
  · exact rightB_eq (iff_of_false (by simp) (by rw [right_cons h0]; rintro ⟨_, _, _, _, h5, _⟩; exact absurd h5 ‹_›))
  · exact rightB_eq (iff_of_false (by simp) (by rw [right_cons h0]; rintro ⟨_, _, _, h4, _⟩; exact absurd ‹_› h4))
  · exact rightB_eq (iff_of_false (by simp) (by rw [right_cons h0]; rintro ⟨_, _, h3, _⟩; exact absurd ‹_› h3))
  · exact rightB_eq (iff_of_false (by simp) (by rw [right_cons h0]; rintro ⟨_, h2, _⟩; omega))

theorem digit_ctr (c : Int) : Ctr Try.prog 22 [.i .u8 c] (.b (decide (48 ≤ c ∧ c ≤ 57))) := by
  refine r_fun Try.func22 rfl Try.ntmps22 Try.results22 rfl rfl fun X hL hX => ?_
  repeat' (first
    | with_reducible refine t_seq ?_ | with_reducible refine t_region ?_ | with_reducible refine c_nil ?_ | with_reducible refine n_then ?_
    | with_reducible refine t_ret ?_ | with_reducible refine t_skip ?_ | with_reducible refine t_exit ?_ | with_reducible refine t_block ?_
    | with_reducible refine n_block ?_ | with_reducible refine e_then ?_ | with_reducible refine x_then ?_ | with_reducible refine x_block ?_ | with_reducible refine t_draw ?_
    | refine r_val rfl rfl True.intro ?_ | refine r_gskip rfl rfl rfl ?_ | refine r_gskip2 rfl rfl rfl ?_ | refine r_gval rfl rfl rfl rfl True.intro ?_
    | refine t_true rfl ?_ | refine t_false rfl ?_
    | ((first | refine t_cond_d rfl (fun _ => ?_) (fun _ => ?_) | refine t_cond_i rfl (fun _ => ?_) (fun _ => ?_) | refine t_cond_j rfl (fun _ => ?_) (fun _ => ?_) | refine t_cond_s rfl (fun _ => ?_) (fun _ => ?_) | refine t_cond_n rfl (fun _ => ?_) (fun _ => ?_) | refine t_cond rfl (fun _ => ?_) (fun _ => ?_) | refine c_split_d rfl rfl (fun _ => ?_) (fun _ => ?_) | refine c_split_i rfl rfl (fun _ => ?_) (fun _ => ?_) | refine c_split_j rfl rfl (fun _ => ?_) (fun _ => ?_) | refine c_split_s rfl rfl (fun _ => ?_) (fun _ => ?_) | refine c_split_n rfl rfl (fun _ => ?_) (fun _ => ?_)) <;> try (first | contradiction | (exfalso; omega)))
    | refine r_val rfl rfl (by (first | omega | exact Nat.le_of_ble_eq_true rfl | (simp only [wrap_u8, IntKind.wrap_i64, IntKind.wrap_i32, wrap_u32', wrap_u64', InI]; (repeat' refine And.intro ?_ ?_) <;> omega) | ((repeat' refine And.intro ?_ ?_) <;> first | omega | rfl | exact Nat.le_refl _ | exact Nat.le_of_ble_eq_true rfl | exact bytesF_one _) | (simp_all; done) | (simp_all; omega))) ?_ | refine r_gval rfl rfl rfl rfl (by (first | omega | exact Nat.le_of_ble_eq_true rfl | (simp only [wrap_u8, IntKind.wrap_i64, IntKind.wrap_i32, wrap_u32', wrap_u64', InI]; (repeat' refine And.intro ?_ ?_) <;> omega) | ((repeat' refine And.intro ?_ ?_) <;> first | omega | rfl | exact Nat.le_refl _ | exact Nat.le_of_ble_eq_true rfl | exact bytesF_one _) | (simp_all; done) | (simp_all; omega))) ?_
    | refine r_obj rfl rfl (by (first | omega | exact Nat.le_of_ble_eq_true rfl | (simp only [wrap_u8, IntKind.wrap_i64, IntKind.wrap_i32, wrap_u32', wrap_u64', InI]; (repeat' refine And.intro ?_ ?_) <;> omega) | ((repeat' refine And.intro ?_ ?_) <;> first | omega | rfl | exact Nat.le_refl _ | exact Nat.le_of_ble_eq_true rfl | exact bytesF_one _) | (simp_all; done) | (simp_all; omega))) ?_ | refine r_sto rfl (by (first | omega | exact Nat.le_of_ble_eq_true rfl | (simp only [wrap_u8, IntKind.wrap_i64, IntKind.wrap_i32, wrap_u32', wrap_u64', InI]; (repeat' refine And.intro ?_ ?_) <;> omega) | ((repeat' refine And.intro ?_ ?_) <;> first | omega | rfl | exact Nat.le_refl _ | exact Nat.le_of_ble_eq_true rfl | exact bytesF_one _) | (simp_all; done) | (simp_all; omega))) ?_ | refine r_gobj rfl rfl rfl rfl (by (first | omega | exact Nat.le_of_ble_eq_true rfl | (simp only [wrap_u8, IntKind.wrap_i64, IntKind.wrap_i32, wrap_u32', wrap_u64', InI]; (repeat' refine And.intro ?_ ?_) <;> omega) | ((repeat' refine And.intro ?_ ?_) <;> first | omega | rfl | exact Nat.le_refl _ | exact Nat.le_of_ble_eq_true rfl | exact bytesF_one _) | (simp_all; done) | (simp_all; omega))) ?_
    | refine e_hit rfl ?_ | refine e_miss rfl ?_
    | refine ⟨by kernel_rfl, ?_⟩ | refine x_end rfl ?_ | ((with_reducible refine c_grd ?_); (fail_if_success (refine c_lit true rfl rfl rfl ?_)); (fail_if_success (refine c_lit false rfl rfl rfl ?_)); refine c_split rfl rfl (fun _ => ?_) (fun _ => ?_)))
  · congr 1
    simp [*]
  · congr 1
    simp [*]

set_option maxHeartbeats 1000000 in
theorem rright_ctr (neg : Bool) (s : List UInt8) (e : Int) (hs : s.length ≤ 1099511627776) : Ctr Try.prog 8 [dcD neg s e] (.b (rightB neg s e)) := by
  refine r_fun Try.func8 rfl Try.ntmps8 Try.results8 rfl rfl fun X hL hX => ?_
  repeat' (first
    | with_reducible refine t_seq ?_ | with_reducible refine t_region ?_ | with_reducible refine c_nil ?_ | with_reducible refine n_then ?_
    | with_reducible refine t_ret ?_ | with_reducible refine t_skip ?_ | with_reducible refine t_exit ?_ | with_reducible refine t_block ?_
    | with_reducible refine n_block ?_ | with_reducible refine e_then ?_ | with_reducible refine x_then ?_ | with_reducible refine x_block ?_ | with_reducible refine t_draw ?_
    | refine r_val rfl rfl True.intro ?_ | refine r_gskip rfl rfl rfl ?_ | refine r_gskip2 rfl rfl rfl ?_ | refine r_gval rfl rfl rfl rfl True.intro ?_
    | refine t_true rfl ?_ | refine t_false rfl ?_
    | ((first | refine t_cond_d rfl (fun _ => ?_) (fun _ => ?_) | refine t_cond_i rfl (fun _ => ?_) (fun _ => ?_) | refine t_cond_j rfl (fun _ => ?_) (fun _ => ?_) | refine t_cond_s rfl (fun _ => ?_) (fun _ => ?_) | refine t_cond_n rfl (fun _ => ?_) (fun _ => ?_) | refine t_cond rfl (fun _ => ?_) (fun _ => ?_) | refine c_split_d rfl rfl (fun _ => ?_) (fun _ => ?_) | refine c_split_i rfl rfl (fun _ => ?_) (fun _ => ?_) | refine c_split_j rfl rfl (fun _ => ?_) (fun _ => ?_) | refine c_split_s rfl rfl (fun _ => ?_) (fun _ => ?_) | refine c_split_n rfl rfl (fun _ => ?_) (fun _ => ?_)) <;> try (first | contradiction | (exfalso; omega)))
    | refine r_val rfl rfl (by (first | omega | exact Nat.le_of_ble_eq_true rfl | (simp only [wrap_u8, IntKind.wrap_i64, IntKind.wrap_i32, wrap_u32', wrap_u64', InI]; (repeat' refine And.intro ?_ ?_) <;> omega) | ((repeat' refine And.intro ?_ ?_) <;> first | omega | rfl | exact Nat.le_refl _ | exact Nat.le_of_ble_eq_true rfl | exact bytesF_one _) | (simp_all; done) | (simp_all; omega))) ?_ | refine r_gval rfl rfl rfl rfl (by (first | omega | exact Nat.le_of_ble_eq_true rfl | (simp only [wrap_u8, IntKind.wrap_i64, IntKind.wrap_i32, wrap_u32', wrap_u64', InI]; (repeat' refine And.intro ?_ ?_) <;> omega) | ((repeat' refine And.intro ?_ ?_) <;> first | omega | rfl | exact Nat.le_refl _ | exact Nat.le_of_ble_eq_true rfl | exact bytesF_one _) | (simp_all; done) | (simp_all; omega))) ?_
    | refine r_obj rfl rfl (by (first | omega | exact Nat.le_of_ble_eq_true rfl | (simp only [wrap_u8, IntKind.wrap_i64, IntKind.wrap_i32, wrap_u32', wrap_u64', InI]; (repeat' refine And.intro ?_ ?_) <;> omega) | ((repeat' refine And.intro ?_ ?_) <;> first | omega | rfl | exact Nat.le_refl _ | exact Nat.le_of_ble_eq_true rfl | exact bytesF_one _) | (simp_all; done) | (simp_all; omega))) ?_ | refine r_sto rfl (by (first | omega | exact Nat.le_of_ble_eq_true rfl | (simp only [wrap_u8, IntKind.wrap_i64, IntKind.wrap_i32, wrap_u32', wrap_u64', InI]; (repeat' refine And.intro ?_ ?_) <;> omega) | ((repeat' refine And.intro ?_ ?_) <;> first | omega | rfl | exact Nat.le_refl _ | exact Nat.le_of_ble_eq_true rfl | exact bytesF_one _) | (simp_all; done) | (simp_all; omega))) ?_ | refine r_gobj rfl rfl rfl rfl (by (first | omega | exact Nat.le_of_ble_eq_true rfl | (simp only [wrap_u8, IntKind.wrap_i64, IntKind.wrap_i32, wrap_u32', wrap_u64', InI]; (repeat' refine And.intro ?_ ?_) <;> omega) | ((repeat' refine And.intro ?_ ?_) <;> first | omega | rfl | exact Nat.le_refl _ | exact Nat.le_of_ble_eq_true rfl | exact bytesF_one _) | (simp_all; done) | (simp_all; omega))) ?_
    | refine e_hit rfl ?_ | refine e_miss rfl ?_
    | refine ⟨by kernel_rfl, ?_⟩ | refine x_end rfl ?_ | ((with_reducible refine c_grd ?_); (fail_if_success (refine c_lit true rfl rfl rfl ?_)); (fail_if_success (refine c_lit false rfl rfl rfl ?_)); refine c_split rfl rfl (fun _ => ?_) (fun _ => ?_)))
  · refine rightB_eq ?_
    rw [right_nil (by omega)]
    simp [*]
  · refine rightB_eq ?_
    rw [right_nil (by omega)]
    simp [*]
  · exact rightB_eq (iff_of_false (by simp) (by rw [right_cons (by omega)]; rintro ⟨_, h2, _⟩; omega))
  · exact rightB_eq (iff_of_false (by simp) (by rw [right_cons (by omega)]; rintro ⟨_, _, h3, _⟩; exact absurd ‹_› h3))
  · exact rightB_eq (iff_of_false (by simp) (by rw [right_cons (by omega)]; rintro ⟨_, _, _, h4, _⟩; exact absurd ‹_› h4))
  · exact rightB_eq (iff_of_false (by simp) (by rw [right_cons (by omega)]; rintro ⟨_, _, _, _, h5, _⟩; omega))
  · exact rightB_eq (iff_of_false (by simp) (by rw [right_cons (by omega)]; rintro ⟨_, _, _, _, _, h6⟩; omega))
  rename_i k0 k1 k2 k3 k4 k5
  have h0 : ¬ s.length = 0 := by omega
  refine T.loop hL (fun i : Nat => [(1, .pv 1 0), (3, .i .i64 s.length), (4, .i .i64 i)]) (fun _ => [(1, .var [.b neg, .s s, .i .i64 e])]) (fun i => i ≤ s.length ∧ ∀ j : Nat, j < i → 48 ≤ at' s j ∧ at' s j ≤ 57) (fun i => s.length - i) 0
    ⟨Nat.zero_le _, fun j hj => absurd hj (Nat.not_lt_zero _)⟩ ⟨⟨rfl, rfl, rfl, trivial⟩, ⟨rfl, trivial⟩, rfl, by rw [hX]; intro k hk; cases hk⟩ ?_
  rintro i ⟨g1, g2⟩
  repeat' (first
    | with_reducible refine t_seq ?_ | with_reducible refine t_region ?_ | with_reducible refine c_nil ?_ | with_reducible refine n_then ?_
    | with_reducible refine t_ret ?_ | with_reducible refine t_skip ?_ | with_reducible refine t_exit ?_ | with_reducible refine t_block ?_
    | with_reducible refine n_block ?_ | with_reducible refine e_then ?_ | with_reducible refine x_then ?_ | with_reducible refine x_block ?_ | with_reducible refine t_draw ?_
    | refine r_val rfl rfl True.intro ?_ | refine r_gskip rfl rfl rfl ?_ | refine r_gskip2 rfl rfl rfl ?_ | refine r_gval rfl rfl rfl rfl True.intro ?_
    | refine t_true rfl ?_ | refine t_false rfl ?_
    | ((first | refine t_cond_d rfl (fun _ => ?_) (fun _ => ?_) | refine t_cond_i rfl (fun _ => ?_) (fun _ => ?_) | refine t_cond_j rfl (fun _ => ?_) (fun _ => ?_) | refine t_cond_s rfl (fun _ => ?_) (fun _ => ?_) | refine t_cond_n rfl (fun _ => ?_) (fun _ => ?_) | refine t_cond rfl (fun _ => ?_) (fun _ => ?_) | refine c_split_d rfl rfl (fun _ => ?_) (fun _ => ?_) | refine c_split_i rfl rfl (fun _ => ?_) (fun _ => ?_) | refine c_split_j rfl rfl (fun _ => ?_) (fun _ => ?_) | refine c_split_s rfl rfl (fun _ => ?_) (fun _ => ?_) | refine c_split_n rfl rfl (fun _ => ?_) (fun _ => ?_)) <;> try (first | contradiction | (exfalso; omega)))
    | refine r_val rfl rfl (by (first | omega | exact Nat.le_of_ble_eq_true rfl | (simp only [wrap_u8, IntKind.wrap_i64, IntKind.wrap_i32, wrap_u32', wrap_u64', InI]; (repeat' refine And.intro ?_ ?_) <;> omega) | ((repeat' refine And.intro ?_ ?_) <;> first | omega | rfl | exact Nat.le_refl _ | exact Nat.le_of_ble_eq_true rfl | exact bytesF_one _) | (simp_all; done) | (simp_all; omega))) ?_ | refine r_gval rfl rfl rfl rfl (by (first | omega | exact Nat.le_of_ble_eq_true rfl | (simp only [wrap_u8, IntKind.wrap_i64, IntKind.wrap_i32, wrap_u32', wrap_u64', InI]; (repeat' refine And.intro ?_ ?_) <;> omega) | ((repeat' refine And.intro ?_ ?_) <;> first | omega | rfl | exact Nat.le_refl _ | exact Nat.le_of_ble_eq_true rfl | exact bytesF_one _) | (simp_all; done) | (simp_all; omega))) ?_
    | refine r_obj rfl rfl (by (first | omega | exact Nat.le_of_ble_eq_true rfl | (simp only [wrap_u8, IntKind.wrap_i64, IntKind.wrap_i32, wrap_u32', wrap_u64', InI]; (repeat' refine And.intro ?_ ?_) <;> omega) | ((repeat' refine And.intro ?_ ?_) <;> first | omega | rfl | exact Nat.le_refl _ | exact Nat.le_of_ble_eq_true rfl | exact bytesF_one _) | (simp_all; done) | (simp_all; omega))) ?_ | refine r_sto rfl (by (first | omega | exact Nat.le_of_ble_eq_true rfl | (simp only [wrap_u8, IntKind.wrap_i64, IntKind.wrap_i32, wrap_u32', wrap_u64', InI]; (repeat' refine And.intro ?_ ?_) <;> omega) | ((repeat' refine And.intro ?_ ?_) <;> first | omega | rfl | exact Nat.le_refl _ | exact Nat.le_of_ble_eq_true rfl | exact bytesF_one _) | (simp_all; done) | (simp_all; omega))) ?_ | refine r_gobj rfl rfl rfl rfl (by (first | omega | exact Nat.le_of_ble_eq_true rfl | (simp only [wrap_u8, IntKind.wrap_i64, IntKind.wrap_i32, wrap_u32', wrap_u64', InI]; (repeat' refine And.intro ?_ ?_) <;> omega) | ((repeat' refine And.intro ?_ ?_) <;> first | omega | rfl | exact Nat.le_refl _ | exact Nat.le_of_ble_eq_true rfl | exact bytesF_one _) | (simp_all; done) | (simp_all; omega))) ?_
    | refine e_hit rfl ?_ | refine e_miss rfl ?_
    | refine ⟨by kernel_rfl, ?_⟩ | refine x_end rfl ?_ | refine r_call (f := 22) rfl rfl Try.call22 rfl (digit_ctr (at' s i)) ?_ | ((with_reducible refine c_grd ?_); (fail_if_success (refine c_lit true rfl rfl rfl ?_)); (fail_if_success (refine c_lit false rfl rfl rfl ?_)); refine c_split rfl rfl (fun _ => ?_) (fun _ => ?_)))
  · rename_i h1 h2
    exact rightB_eq (iff_of_false (by simp) (by rw [right_cons h0]; rintro ⟨h1, _⟩; have := h1 i (by omega); simp at h2; omega))
  · rename_i h1 h2
    have h2 : 48 ≤ at' s i ∧ at' s i ≤ 57 := by simpa using h2
    refine ⟨i + 1, ⟨by omega, fun j hj => ?_⟩, by omega, ⟨rfl, rfl, rfl, trivial⟩, ⟨rfl, trivial⟩, rfl, by rw [hX]; intro k hk; cases hk⟩
    by_cases hji : j = i
    · subst hji
      exact h2
    · exact g2 j (by omega)
  · refine rightB_eq (iff_of_true rfl ?_)
    rw [right_cons h0]
    exact ⟨fun j hj => g2 j (by omega), by omega, k2, k3, by omega, by omega⟩

/-! ### A decimal as one number by another -/
def mulN (B : Nat) : Nat → List Nat → List Nat
  | 0, a => a
  | k + 1, a => mulG B 10 0 (mulN B k a)
def dgW (B : Nat) (s : List UInt8) : List Nat := s.foldl (fun a c => mulG B 10 (c.toNat - 48) a) []
def ratN (B : Nat) (s : List UInt8) (e : Int) : List Nat := mulN B e.toNat (dgW B s)
def ratD (B : Nat) (e : Int) : List Nat := mulN B (-e).toNat [1]
/-- The digits as a number. -/
def dgV (s : List UInt8) : Nat := s.foldl (fun a c => 10 * a + (c.toNat - 48)) 0
def numV (s : List UInt8) (e : Int) : Nat := dgV s * 10 ^ e.toNat
def denV (e : Int) : Nat := 10 ^ (-e).toNat

theorem mulN_ok {B : Nat} (hB : 10 ≤ B) : ∀ (k : Nat) (a : List Nat), wsm B a → val B (mulN B k a) = val B a * 10 ^ k ∧ wsm B (mulN B k a) ∧ (nrm a → nrm (mulN B k a)) ∧ (mulN B k a).length ≤ a.length + k
  | 0, a, h => ⟨by simp [mulN], h, fun h => h, by simp [mulN]⟩
  | k + 1, a, h => by
    obtain ⟨h1, h2, h3, h4⟩ := mulN_ok hB k a h
    have h5 := len_mulG B 10 (mulN B k a) 0
    refine ⟨?_, wsm_mulG hB _ _ (by omega) h2, fun hn => nrm_mulG (by omega) (by omega) _ _ (h3 hn), by rw [mulN]; omega⟩
    rw [mulN, val_mulG, h1, Nat.pow_succ]
    grind

theorem dgW_snoc (B : Nat) (s : List UInt8) (c : UInt8) : dgW B (s ++ [c]) = mulG B 10 (c.toNat - 48) (dgW B s) := by simp [dgW]
theorem dgV_snoc (s : List UInt8) (c : UInt8) : dgV (s ++ [c]) = 10 * dgV s + (c.toNat - 48) := by simp [dgV]

theorem snoc_casesU (l : List UInt8) : l = [] ∨ ∃ r w, l = r ++ [w] := by
  rcases List.eq_nil_or_concat l with h | ⟨r, w, h⟩
  · exact .inl h
  · exact .inr ⟨r, w, by simpa using h⟩

theorem dgW_ok {B : Nat} (hB : 256 ≤ B) : ∀ (n : Nat) (s : List UInt8), s.length = n → val B (dgW B s) = dgV s ∧ wsm B (dgW B s) ∧ nrm (dgW B s) ∧ (dgW B s).length ≤ n
  | 0, s, h => by
    have := len_nil h
    subst this
    exact ⟨rfl, wsm_nil B, trivial, Nat.le_refl _⟩
  | n + 1, s, h => by
    rcases snoc_casesU s with rfl | ⟨r, c, rfl⟩
    · simp at h
    · obtain ⟨h1, h2, h3, h4⟩ := dgW_ok hB n r (by simpa using h)
      have h5 := len_mulG B 10 (dgW B r) (c.toNat - 48)
      have hc := c.toNat_lt
      rw [dgW_snoc, dgV_snoc]
      refine ⟨by rw [val_mulG, h1]; grind, wsm_mulG (by omega) _ _ (by omega) h2, nrm_mulG (by omega) (by omega) _ _ h3, by omega⟩

theorem ratN_ok {B : Nat} (hB : 256 ≤ B) (s : List UInt8) (e : Int) : val B (ratN B s e) = numV s e ∧ wsm B (ratN B s e) ∧ nrm (ratN B s e) ∧ (ratN B s e).length ≤ s.length + e.toNat := by
  obtain ⟨h1, h2, h3, h4⟩ := dgW_ok hB s.length s rfl
  obtain ⟨g1, g2, g3, g4⟩ := mulN_ok (B := B) (by omega) e.toNat (dgW B s) h2
  exact ⟨by unfold ratN numV; rw [g1, h1], g2, g3 h3, by unfold ratN; omega⟩
theorem ratD_ok {B : Nat} (hB : 256 ≤ B) (e : Int) : val B (ratD B e) = denV e ∧ wsm B (ratD B e) ∧ nrm (ratD B e) ∧ (ratD B e).length ≤ 1 + (-e).toNat := by
  obtain ⟨g1, g2, g3, g4⟩ := mulN_ok (B := B) (by omega) (-e).toNat [1] (wsm_cons.2 ⟨by omega, wsm_nil B⟩)
  exact ⟨by unfold ratD denV; rw [g1]; simp [val], g2, g3 Nat.zero_lt_one, g4⟩

theorem RightP.bounds {neg : Bool} {s : List UInt8} {e : Int} (h : RightP neg s e) : s.length ≤ 100 ∧ -1000 ≤ e ∧ e ≤ 1000 ∧ digs s := by
  unfold RightP at h
  split at h
  · rename_i h0
    exact ⟨by omega, by omega, by omega, fun i hi => by omega⟩
  · exact ⟨h.2.1, h.2.2.2.2.1, h.2.2.2.2.2, h.1⟩

theorem take_snoc (s : List UInt8) (i : Nat) (h : i < s.length) : s.take (i + 1) = s.take i ++ [s.getD i 0] := by
  rw [List.take_add_one, List.getD_eq_getElem?_getD, List.getElem?_eq_getElem h]
  rfl

end Go.Proofs.Ytenkmfahcmahkaa.Flow
