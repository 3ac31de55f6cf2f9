/- The texts D10, D14, T1, D7, D4, D5, D8, D9, T3, T5, one behind the other. -/
import Derived.Test.YteidmimpkipcfaaDoorKM7
import Derived.Lib.IndexAny
/- DEC: a decimal's text, by both. -/
namespace Go.Proofs.YteidmimpkipcfaaDoor.Flow
open Go

abbrev zs (n : Nat) : List UInt8 := List.replicate n 48

theorem repeatL_one (n : Nat) : Lib.repeatL [48] n = zs n := by
  induction n with
  | zero => rfl
  | succ n ih =>
    rw [Lib.repeatL, ih]
    show _ = List.replicate (n + 1) 48
    rw [List.replicate_succ]
    rfl

/-- The text of a right decimal that isn't 0, the sign left out. -/
def textU (s : List UInt8) (e : Int) : List UInt8 :=
  if 0 ≤ e ∧ s.length + e ≤ 21 then s ++ zs e.toNat
  else if 1 ≤ s.length + e ∧ s.length + e < s.length then s.take (s.length + e).toNat ++ [46] ++ s.drop (s.length + e).toNat
  else if -6 ≤ s.length + e ∧ s.length + e ≤ 0 then [48, 46] ++ zs (-(s.length + e)).toNat ++ s
  else s.take 1 ++ (if 1 < s.length then [46] ++ s.drop 1 else []) ++ [101] ++ Lib.itoa (s.length + e - 1)
def textF (neg : Bool) (s : List UInt8) (e : Int) : List UInt8 :=
  if ¬ RightP neg s e then [] else if s.length = 0 then [48] else (if neg = true then [45] else []) ++ textU s e

theorem rep_ctr (e : Int) (h : 0 ≤ e) (h2 : e ≤ 1000000) : Ctr Tryd.prog 83 [.s [48], .i .i64 e] (.s (zs e.toNat)) := by
  obtain ⟨n, rfl⟩ := Int.eq_ofNat_of_zero_le h
  have := repeat_ctr [48] n (by omega) (by simp; omega)
  rwa [repeatL_one] at this

abbrev dig10 : List UInt8 := [48, 49, 50, 51, 52, 53, 54, 55, 56, 57]
theorem dig_at : ∀ n : Nat, n < 10 → (dig10.take (n + 1)).drop n = [UInt8.ofNat (48 + n)] := by decide

theorem rnum_pos (n : Nat) : n ≤ 1000000 → Ctr Tryd.prog 44 [.i .i64 n] (.s (Lib.decDigits n)) := by
  induction n using Nat.strongRecOn with
  | ind n ih =>
    intro hn
    have hl : (Lib.decDigits (n / 10)).length ≤ 100 := dlen (n / 10) (by omega)
    have l1 : dig10.length = 10 := rfl
    by_cases h : n < 10
    · have e : Lib.decDigits n = [UInt8.ofNat (48 + n)] := by rw [Lib.decDigits, dif_pos h]
      refine r_fun Tryd.func44 rfl Tryd.ntmps44 Tryd.results44 rfl rfl fun X hL hX => ?_
      clear ih hl
      repeat' (first
        | with_reducible refine t_seq ?_ | with_reducible refine t_region ?_ | with_reducible refine c_nil ?_ | with_reducible refine n_then ?_
        | with_reducible refine t_ret ?_ | with_reducible refine t_skip ?_ | with_reducible refine t_exit ?_ | with_reducible refine t_block ?_
        | with_reducible refine n_block ?_ | with_reducible refine e_then ?_ | with_reducible refine x_then ?_ | with_reducible refine x_block ?_ | with_reducible refine t_draw ?_
        | refine r_val rfl rfl True.intro ?_ | refine r_gskip rfl rfl rfl ?_ | refine r_gskip2 rfl rfl rfl ?_ | refine r_gval rfl rfl rfl rfl True.intro ?_
        | refine t_true rfl ?_ | refine t_false rfl ?_
        | ((first | refine t_cond_d rfl (fun _ => ?_) (fun _ => ?_) | refine t_cond_i rfl (fun _ => ?_) (fun _ => ?_) | refine t_cond_j rfl (fun _ => ?_) (fun _ => ?_) | refine t_cond_s rfl (fun _ => ?_) (fun _ => ?_) | refine t_cond_n rfl (fun _ => ?_) (fun _ => ?_) | refine t_cond rfl (fun _ => ?_) (fun _ => ?_) | refine c_split_d rfl rfl (fun _ => ?_) (fun _ => ?_) | refine c_split_i rfl rfl (fun _ => ?_) (fun _ => ?_) | refine c_split_j rfl rfl (fun _ => ?_) (fun _ => ?_) | refine c_split_s rfl rfl (fun _ => ?_) (fun _ => ?_) | refine c_split_n rfl rfl (fun _ => ?_) (fun _ => ?_)) <;> try (first | contradiction | (exfalso; omega)))
        | refine r_val rfl rfl (by (first | omega | exact Nat.le_of_ble_eq_true rfl | (simp only [wrap_u8, IntKind.wrap_i64, IntKind.wrap_i32, wrap_u32', wrap_u64', InI]; (repeat' refine And.intro ?_ ?_) <;> omega) | ((repeat' refine And.intro ?_ ?_) <;> first | omega | rfl | exact Nat.le_refl _ | exact Nat.le_of_ble_eq_true rfl | exact bytesF_one _) | (simp_all; done) | (simp_all; omega))) ?_ | refine r_gval rfl rfl rfl rfl (by (first | omega | exact Nat.le_of_ble_eq_true rfl | (simp only [wrap_u8, IntKind.wrap_i64, IntKind.wrap_i32, wrap_u32', wrap_u64', InI]; (repeat' refine And.intro ?_ ?_) <;> omega) | ((repeat' refine And.intro ?_ ?_) <;> first | omega | rfl | exact Nat.le_refl _ | exact Nat.le_of_ble_eq_true rfl | exact bytesF_one _) | (simp_all; done) | (simp_all; omega))) ?_
        | refine r_obj rfl rfl (by (first | omega | exact Nat.le_of_ble_eq_true rfl | (simp only [wrap_u8, IntKind.wrap_i64, IntKind.wrap_i32, wrap_u32', wrap_u64', InI]; (repeat' refine And.intro ?_ ?_) <;> omega) | ((repeat' refine And.intro ?_ ?_) <;> first | omega | rfl | exact Nat.le_refl _ | exact Nat.le_of_ble_eq_true rfl | exact bytesF_one _) | (simp_all; done) | (simp_all; omega))) ?_ | refine r_sto rfl (by (first | omega | exact Nat.le_of_ble_eq_true rfl | (simp only [wrap_u8, IntKind.wrap_i64, IntKind.wrap_i32, wrap_u32', wrap_u64', InI]; (repeat' refine And.intro ?_ ?_) <;> omega) | ((repeat' refine And.intro ?_ ?_) <;> first | omega | rfl | exact Nat.le_refl _ | exact Nat.le_of_ble_eq_true rfl | exact bytesF_one _) | (simp_all; done) | (simp_all; omega))) ?_ | refine r_gobj rfl rfl rfl rfl (by (first | omega | exact Nat.le_of_ble_eq_true rfl | (simp only [wrap_u8, IntKind.wrap_i64, IntKind.wrap_i32, wrap_u32', wrap_u64', InI]; (repeat' refine And.intro ?_ ?_) <;> omega) | ((repeat' refine And.intro ?_ ?_) <;> first | omega | rfl | exact Nat.le_refl _ | exact Nat.le_of_ble_eq_true rfl | exact bytesF_one _) | (simp_all; done) | (simp_all; omega))) ?_
        | refine e_hit rfl ?_ | refine e_miss rfl ?_
        | refine ⟨by kernel_rfl, ?_⟩ | refine x_end rfl ?_ | ((with_reducible refine c_grd ?_); (fail_if_success (refine c_lit true rfl rfl rfl ?_)); (fail_if_success (refine c_lit false rfl rfl rfl ?_)); refine c_split rfl rfl (fun _ => ?_) (fun _ => ?_)))
      rw [e, ← dig_at n h]
      rfl
    · have e : Lib.decDigits n = Lib.decDigits (n / 10) ++ [UInt8.ofNat (48 + n % 10)] := by rw [Lib.decDigits, dif_neg h]
      have c := ih (n / 10) (by omega) (by omega)
      refine r_fun Tryd.func44 rfl Tryd.ntmps44 Tryd.results44 rfl rfl fun X hL hX => ?_
      clear ih
      repeat' (first
        | with_reducible refine t_seq ?_ | with_reducible refine t_region ?_ | with_reducible refine c_nil ?_ | with_reducible refine n_then ?_
        | with_reducible refine t_ret ?_ | with_reducible refine t_skip ?_ | with_reducible refine t_exit ?_ | with_reducible refine t_block ?_
        | with_reducible refine n_block ?_ | with_reducible refine e_then ?_ | with_reducible refine x_then ?_ | with_reducible refine x_block ?_ | with_reducible refine t_draw ?_
        | refine r_val rfl rfl True.intro ?_ | refine r_gskip rfl rfl rfl ?_ | refine r_gskip2 rfl rfl rfl ?_ | refine r_gval rfl rfl rfl rfl True.intro ?_
        | refine t_true rfl ?_ | refine t_false rfl ?_
        | ((first | refine t_cond_d rfl (fun _ => ?_) (fun _ => ?_) | refine t_cond_i rfl (fun _ => ?_) (fun _ => ?_) | refine t_cond_j rfl (fun _ => ?_) (fun _ => ?_) | refine t_cond_s rfl (fun _ => ?_) (fun _ => ?_) | refine t_cond_n rfl (fun _ => ?_) (fun _ => ?_) | refine t_cond rfl (fun _ => ?_) (fun _ => ?_) | refine c_split_d rfl rfl (fun _ => ?_) (fun _ => ?_) | refine c_split_i rfl rfl (fun _ => ?_) (fun _ => ?_) | refine c_split_j rfl rfl (fun _ => ?_) (fun _ => ?_) | refine c_split_s rfl rfl (fun _ => ?_) (fun _ => ?_) | refine c_split_n rfl rfl (fun _ => ?_) (fun _ => ?_)) <;> try (first | (rename_i hz; exact Bool.noConfusion (show true = false from hz)) | (rename_i hz; exact Bool.noConfusion (show false = true from hz)) | (exfalso; omega)))
        | refine r_val rfl rfl (by (first | (simp only [List.length_drop, List.length_take]; omega) | omega | exact Nat.le_of_ble_eq_true rfl | (simp only [wrap_u8, IntKind.wrap_i64, IntKind.wrap_i32, wrap_u32', wrap_u64', InI]; (repeat' refine And.intro ?_ ?_) <;> omega) | ((repeat' refine And.intro ?_ ?_) <;> first | omega | rfl | exact Nat.le_refl _ | exact Nat.le_of_ble_eq_true rfl | exact bytesF_one _) | (simp_all; done) | (simp_all; omega))) ?_ | refine r_gval rfl rfl rfl rfl (by (first | (simp only [List.length_drop, List.length_take]; omega) | omega | exact Nat.le_of_ble_eq_true rfl | (simp only [wrap_u8, IntKind.wrap_i64, IntKind.wrap_i32, wrap_u32', wrap_u64', InI]; (repeat' refine And.intro ?_ ?_) <;> omega) | ((repeat' refine And.intro ?_ ?_) <;> first | omega | rfl | exact Nat.le_refl _ | exact Nat.le_of_ble_eq_true rfl | exact bytesF_one _) | (simp_all; done) | (simp_all; omega))) ?_
        | refine r_obj rfl rfl (by (first | (simp only [List.length_drop, List.length_take]; omega) | omega | exact Nat.le_of_ble_eq_true rfl | (simp only [wrap_u8, IntKind.wrap_i64, IntKind.wrap_i32, wrap_u32', wrap_u64', InI]; (repeat' refine And.intro ?_ ?_) <;> omega) | ((repeat' refine And.intro ?_ ?_) <;> first | omega | rfl | exact Nat.le_refl _ | exact Nat.le_of_ble_eq_true rfl | exact bytesF_one _) | (simp_all; done) | (simp_all; omega))) ?_ | refine r_sto rfl (by (first | (simp only [List.length_drop, List.length_take]; omega) | omega | exact Nat.le_of_ble_eq_true rfl | (simp only [wrap_u8, IntKind.wrap_i64, IntKind.wrap_i32, wrap_u32', wrap_u64', InI]; (repeat' refine And.intro ?_ ?_) <;> omega) | ((repeat' refine And.intro ?_ ?_) <;> first | omega | rfl | exact Nat.le_refl _ | exact Nat.le_of_ble_eq_true rfl | exact bytesF_one _) | (simp_all; done) | (simp_all; omega))) ?_ | refine r_gobj rfl rfl rfl rfl (by (first | (simp only [List.length_drop, List.length_take]; omega) | omega | exact Nat.le_of_ble_eq_true rfl | (simp only [wrap_u8, IntKind.wrap_i64, IntKind.wrap_i32, wrap_u32', wrap_u64', InI]; (repeat' refine And.intro ?_ ?_) <;> omega) | ((repeat' refine And.intro ?_ ?_) <;> first | omega | rfl | exact Nat.le_refl _ | exact Nat.le_of_ble_eq_true rfl | exact bytesF_one _) | (simp_all; done) | (simp_all; omega))) ?_
        | refine e_hit rfl ?_ | refine e_miss rfl ?_
        | refine ⟨by kernel_rfl, ?_⟩ | refine x_end rfl ?_ | refine r_call (f := 44) rfl rfl Tryd.call44 rfl c ?_ | ((with_reducible refine c_grd ?_); (fail_if_success (refine c_lit true rfl rfl rfl ?_)); (fail_if_success (refine c_lit false rfl rfl rfl ?_)); refine c_split rfl rfl (fun _ => ?_) (fun _ => ?_)))
      rw [e, ← dig_at (n % 10) (by omega)]
      rfl
where
  dlen (n : Nat) (h : n ≤ 1000000) : (Lib.decDigits n).length ≤ 100 := by
    have key : ∀ (k n : Nat), n < 10 ^ k → (Lib.decDigits n).length ≤ k + 1 := by
      intro k
      induction k with
      | zero => intro n hn; rw [Lib.decDigits, dif_pos (by omega)]; simp
      | succ k ih =>
        intro n hn
        rw [Lib.decDigits]
        split
        · simp
        · have := ih (n / 10) (by rw [Nat.pow_succ] at hn; omega)
          simp
          omega
    have := key 7 n (by omega)
    omega

theorem rnum_ctr (n : Int) (h0 : -1000000 ≤ n) (h1 : n ≤ 1000000) : Ctr Tryd.prog 44 [.i .i64 n] (.s (Lib.itoa n)) := by
  unfold Lib.itoa
  by_cases h : n < 0
  · rw [if_pos h]
    have c := rnum_pos n.natAbs (by omega)
    rw [show ((n.natAbs : Nat) : Int) = -n by omega] at c
    have hl := rnum_pos.dlen n.natAbs (by omega)
    generalize Lib.decDigits n.natAbs = ds at c hl ⊢
    refine r_fun Tryd.func44 rfl Tryd.ntmps44 Tryd.results44 rfl rfl fun X hL hX => ?_
    repeat' (first
      | with_reducible refine t_seq ?_ | with_reducible refine t_region ?_ | with_reducible refine c_nil ?_ | with_reducible refine n_then ?_
      | with_reducible refine t_ret ?_ | with_reducible refine t_skip ?_ | with_reducible refine t_exit ?_ | with_reducible refine t_block ?_
      | with_reducible refine n_block ?_ | with_reducible refine e_then ?_ | with_reducible refine x_then ?_ | with_reducible refine x_block ?_ | with_reducible refine t_draw ?_
      | refine r_val rfl rfl True.intro ?_ | refine r_gskip rfl rfl rfl ?_ | refine r_gskip2 rfl rfl rfl ?_ | refine r_gval rfl rfl rfl rfl True.intro ?_
      | refine t_true rfl ?_ | refine t_false rfl ?_
      | ((first | refine t_cond_d rfl (fun _ => ?_) (fun _ => ?_) | refine t_cond_i rfl (fun _ => ?_) (fun _ => ?_) | refine t_cond_j rfl (fun _ => ?_) (fun _ => ?_) | refine t_cond_s rfl (fun _ => ?_) (fun _ => ?_) | refine t_cond_n rfl (fun _ => ?_) (fun _ => ?_) | refine t_cond rfl (fun _ => ?_) (fun _ => ?_) | refine c_split_d rfl rfl (fun _ => ?_) (fun _ => ?_) | refine c_split_i rfl rfl (fun _ => ?_) (fun _ => ?_) | refine c_split_j rfl rfl (fun _ => ?_) (fun _ => ?_) | refine c_split_s rfl rfl (fun _ => ?_) (fun _ => ?_) | refine c_split_n rfl rfl (fun _ => ?_) (fun _ => ?_)) <;> try (first | (rename_i hz; exact Bool.noConfusion (show true = false from hz)) | (rename_i hz; exact Bool.noConfusion (show false = true from hz)) | (exfalso; omega)))
      | refine r_val rfl rfl (by (first | (simp only [Array.length_toList, List.size_toArray, List.length_cons, List.length_nil]; omega) | omega | exact Nat.le_of_ble_eq_true rfl | (simp only [wrap_u8, IntKind.wrap_i64, IntKind.wrap_i32, wrap_u32', wrap_u64', InI]; (repeat' refine And.intro ?_ ?_) <;> omega) | ((repeat' refine And.intro ?_ ?_) <;> first | omega | rfl | exact Nat.le_refl _ | exact Nat.le_of_ble_eq_true rfl | exact bytesF_one _) | (simp_all; done) | (simp_all; omega))) ?_ | refine r_gval rfl rfl rfl rfl (by (first | (simp only [Array.length_toList, List.size_toArray, List.length_cons, List.length_nil]; omega) | omega | exact Nat.le_of_ble_eq_true rfl | (simp only [wrap_u8, IntKind.wrap_i64, IntKind.wrap_i32, wrap_u32', wrap_u64', InI]; (repeat' refine And.intro ?_ ?_) <;> omega) | ((repeat' refine And.intro ?_ ?_) <;> first | omega | rfl | exact Nat.le_refl _ | exact Nat.le_of_ble_eq_true rfl | exact bytesF_one _) | (simp_all; done) | (simp_all; omega))) ?_
      | refine r_obj rfl rfl (by (first | (simp only [Array.length_toList, List.size_toArray, List.length_cons, List.length_nil]; omega) | omega | exact Nat.le_of_ble_eq_true rfl | (simp only [wrap_u8, IntKind.wrap_i64, IntKind.wrap_i32, wrap_u32', wrap_u64', InI]; (repeat' refine And.intro ?_ ?_) <;> omega) | ((repeat' refine And.intro ?_ ?_) <;> first | omega | rfl | exact Nat.le_refl _ | exact Nat.le_of_ble_eq_true rfl | exact bytesF_one _) | (simp_all; done) | (simp_all; omega))) ?_ | refine r_sto rfl (by (first | (simp only [Array.length_toList, List.size_toArray, List.length_cons, List.length_nil]; omega) | omega | exact Nat.le_of_ble_eq_true rfl | (simp only [wrap_u8, IntKind.wrap_i64, IntKind.wrap_i32, wrap_u32', wrap_u64', InI]; (repeat' refine And.intro ?_ ?_) <;> omega) | ((repeat' refine And.intro ?_ ?_) <;> first | omega | rfl | exact Nat.le_refl _ | exact Nat.le_of_ble_eq_true rfl | exact bytesF_one _) | (simp_all; done) | (simp_all; omega))) ?_ | refine r_gobj rfl rfl rfl rfl (by (first | (simp only [Array.length_toList, List.size_toArray, List.length_cons, List.length_nil]; omega) | omega | exact Nat.le_of_ble_eq_true rfl | (simp only [wrap_u8, IntKind.wrap_i64, IntKind.wrap_i32, wrap_u32', wrap_u64', InI]; (repeat' refine And.intro ?_ ?_) <;> omega) | ((repeat' refine And.intro ?_ ?_) <;> first | omega | rfl | exact Nat.le_refl _ | exact Nat.le_of_ble_eq_true rfl | exact bytesF_one _) | (simp_all; done) | (simp_all; omega))) ?_
      | refine e_hit rfl ?_ | refine e_miss rfl ?_
      | refine ⟨by kernel_rfl, ?_⟩ | refine x_end rfl ?_ | refine r_call (f := 44) rfl rfl Tryd.call44 rfl c ?_ | ((with_reducible refine c_grd ?_); (fail_if_success (refine c_lit true rfl rfl rfl ?_)); (fail_if_success (refine c_lit false rfl rfl rfl ?_)); refine c_split rfl rfl (fun _ => ?_) (fun _ => ?_)))
    rfl
  · rw [if_neg h]
    have c := rnum_pos n.toNat (by omega)
    rwa [show ((n.toNat : Nat) : Int) = n by omega] at c

theorem itoa_len (n : Int) (h0 : -1000000 ≤ n) (h1 : n ≤ 1000000) : (Lib.itoa n).length ≤ 101 := by
  unfold Lib.itoa
  split
  · have := rnum_pos.dlen n.natAbs (by omega)
    simp only [List.length_cons]
    omega
  · have := rnum_pos.dlen n.toNat (by omega)
    omega

end Go.Proofs.YteidmimpkipcfaaDoor.Flow

/- DEC: numbers and their digits, in plain words. -/
namespace Go.Proofs.YteidmimpkipcfaaDoor.Flow
open Go

/-- Digits as a number. -/
def numA (a : Nat) (l : List UInt8) : Nat := l.foldl (fun n c => 10 * n + (c.toNat - 48)) a
def numL (l : List UInt8) : Nat := numA 0 l

theorem numA_nil (a : Nat) : numA a [] = a := rfl
theorem numA_cons (a : Nat) (c : UInt8) (l : List UInt8) : numA a (c :: l) = numA (10 * a + (c.toNat - 48)) l := by
  unfold numA
  rw [List.foldl_cons]
theorem numA_app (a : Nat) (l m : List UInt8) : numA a (l ++ m) = numA (numA a l) m := by simp [numA]
theorem numA_eq (l : List UInt8) : ∀ a : Nat, numA a l = a * 10 ^ l.length + numL l := by
  induction l with
  | nil =>
    intro a
    simp [numA_nil, numL]
  | cons c l ih =>
    intro a
    have h1 := numA_cons a c l
    have h2 : numL (c :: l) = numA (10 * 0 + (c.toNat - 48)) l := numA_cons 0 c l
    rw [h1, h2, ih, ih (10 * 0 + (c.toNat - 48)), List.length_cons, Nat.pow_succ]
    generalize 10 ^ l.length = t
    generalize c.toNat - 48 = d
    have h3 : 10 * a * t = a * (t * 10) := by rw [Nat.mul_comm 10 a, Nat.mul_assoc, Nat.mul_comm 10 t]
    rw [Nat.add_mul, h3, Nat.mul_zero, Nat.zero_add]
    omega
theorem numL_cons (c : UInt8) (l : List UInt8) : numL (c :: l) = (c.toNat - 48) * 10 ^ l.length + numL l := by
  have : numL (c :: l) = numA (10 * 0 + (c.toNat - 48)) l := numA_cons 0 c l
  rw [this, numA_eq]
  simp
theorem numL_snoc (l : List UInt8) (c : UInt8) : numL (l ++ [c]) = 10 * numL l + (c.toNat - 48) := by
  unfold numL
  rw [numA_app]
  rfl

theorem isD_nat {c : UInt8} (h : isD c = true) : 48 ≤ c.toNat ∧ c.toNat ≤ 57 := by
  have := isD_iff.1 h
  omega

theorem numL_lt : ∀ (l : List UInt8), (∀ c ∈ l, isD c = true) → numL l < 10 ^ l.length
  | [], _ => by decide
  | c :: l, h => by
    have h1 := isD_nat (h c (by simp))
    have h2 := numL_lt l fun c hc => h c (by simp [hc])
    rw [numL_cons, List.length_cons, Nat.pow_succ]
    have h3 : (c.toNat - 48) * 10 ^ l.length ≤ 9 * 10 ^ l.length := Nat.mul_le_mul_right _ (by omega)
    omega

theorem dec_step {k : Nat} (h : ¬ k < 10) : Lib.decDigits k = Lib.decDigits (k / 10) ++ [UInt8.ofNat (48 + k % 10)] := by rw [Lib.decDigits, dif_neg h]
theorem dec_small {k : Nat} (h : k < 10) : Lib.decDigits k = [UInt8.ofNat (48 + k)] := by rw [Lib.decDigits, dif_pos h]

theorem isD_dig {n : Nat} (h : n < 10) : isD (UInt8.ofNat (48 + n)) = true ∧ (UInt8.ofNat (48 + n)).toNat = 48 + n := by
  have : (UInt8.ofNat (48 + n)).toNat = 48 + n := by simp; omega
  exact ⟨isD_iff.2 (by omega), this⟩

theorem dec_isD (k : Nat) : ∀ c ∈ Lib.decDigits k, isD c = true := by
  induction k using Nat.strongRecOn with
  | ind k ih =>
    by_cases h : k < 10
    · rw [dec_small h]
      intro c hc
      rw [List.mem_singleton.1 hc]
      exact (isD_dig h).1
    · rw [dec_step h]
      intro c hc
      rcases List.mem_append.1 hc with hc | hc
      · exact ih (k / 10) (by omega) c hc
      · rw [List.mem_singleton.1 hc]
        exact (isD_dig (by omega)).1

theorem dec_num (k : Nat) : numL (Lib.decDigits k) = k := by
  induction k using Nat.strongRecOn with
  | ind k ih =>
    by_cases h : k < 10
    · rw [dec_small h, numL_cons, (isD_dig h).2]
      simp [numL, numA]
    · rw [dec_step h, numL_snoc, (isD_dig (by omega)).2, ih (k / 10) (by omega)]
      omega

/-- A number that isn't 0 begins with no 0. -/
theorem dec_first (k : Nat) (h : ¬ k = 0) : ∃ c l, Lib.decDigits k = c :: l ∧ ¬ c = 48 := by
  induction k using Nat.strongRecOn with
  | ind k ih =>
    by_cases h2 : k < 10
    · refine ⟨_, [], dec_small h2, fun h3 => ?_⟩
      have := congrArg UInt8.toNat h3
      rw [(isD_dig h2).2] at this
      have : (48 : UInt8).toNat = 48 := rfl
      omega
    · obtain ⟨c, l, h3, h4⟩ := ih (k / 10) (by omega) (by omega)
      exact ⟨c, l ++ [UInt8.ofNat (48 + k % 10)], by rw [dec_step h2, h3]; rfl, h4⟩

theorem dec_len (k n : Nat) (h : k < 10 ^ n) (hn : 1 ≤ n) : (Lib.decDigits k).length ≤ n := by
  induction n generalizing k with
  | zero => omega
  | succ n ih =>
    by_cases h2 : k < 10
    · rw [dec_small h2]
      simp
    · rw [dec_step h2, List.length_append, List.length_singleton]
      rw [Nat.pow_succ] at h
      by_cases hz : n = 0
      · subst hz
        omega
      · have := ih (k / 10) (by omega) (by omega)
        omega

/-- The digits of a number, none of 0. -/
def dig0 (k : Nat) : List UInt8 := if k = 0 then [] else Lib.decDigits k
theorem dig0_step {k : Nat} (h : ¬ k = 0) : dig0 k = dig0 (k / 10) ++ [UInt8.ofNat (48 + k % 10)] := by
  unfold dig0
  rw [if_neg h]
  by_cases h2 : k < 10
  · rw [dec_small h2, if_pos (by omega), show k % 10 = k by omega]
    rfl
  · rw [dec_step h2, if_neg (by omega)]

theorem norm_none (neg : Bool) (e : Int) : normF neg [] e = ((false, [], 0), 0) := rfl
theorem norm_zero (neg : Bool) (e : Int) : normF neg [48] e = ((false, [], 0), 0) := by
  unfold normF
  rw [if_pos (by decide)]
theorem norm_dig0 (neg : Bool) (k : Nat) (e : Int) : normF neg (dig0 k) e = normF neg (Lib.decDigits k) e := by
  unfold dig0
  split
  · rename_i h
    subst h
    rw [norm_none, show Lib.decDigits 0 = [48] from dec_small (by omega), norm_zero]
  · rfl

/-! ### Zeros at the ends -/

theorem tR_split (s : List UInt8) : s = tR s ++ zs (s.length - (tR s).length) := by
  have key : ∀ (n : Nat) (s : List UInt8), s.length = n → s = tR s ++ zs (s.length - (tR s).length) := by
    intro n
    induction n with
    | zero =>
      intro s h
      obtain rfl := List.length_eq_zero_iff.1 h
      rfl
    | succ n ih =>
      intro s h
      rcases snoc_casesU s with rfl | ⟨r, c, rfl⟩
      · simp at h
      · by_cases hc : c = 48
        · subst hc
          rw [tR_snoc_eq]
          have h1 := ih r (by simpa using h)
          have h2 := tR_len r
          rw [List.length_append, List.length_singleton, show r.length + 1 - (tR r).length = (r.length - (tR r).length) + 1 by omega]
          unfold zs at h1 ⊢
          rw [List.replicate_succ', ← List.append_assoc, ← h1]
        · rw [tR_snoc_ne r c hc]
          simp
  exact key _ s rfl

theorem tR_mem {s : List UInt8} {c : UInt8} (h : c ∈ tR s) : c ∈ s := by
  rw [tR_split s]
  exact List.mem_append_left _ h

theorem tR_lastOk (s : List UInt8) : lastOk (tR s) := by
  have key : ∀ (n : Nat) (s : List UInt8), s.length = n → lastOk (tR s) := by
    intro n
    induction n with
    | zero =>
      intro s h
      obtain rfl := List.length_eq_zero_iff.1 h
      intro c r e
      have : tR [] = [] := rfl
      rw [this] at e
      simp at e
    | succ n ih =>
      intro s h
      rcases snoc_casesU s with rfl | ⟨r, c, rfl⟩
      · simp at h
      · by_cases hc : c = 48
        · subst hc
          rw [tR_snoc_eq]
          exact ih r (by simpa using h)
        · rw [tR_snoc_ne r c hc]
          intro d q e
          have := congrArg List.getLast? e
          simp at this
          rw [← this]
          exact hc
  exact key _ s rfl

theorem tL_ne {c : UInt8} {l : List UInt8} (h : ¬ c = 48) : tL (c :: l) = c :: l := by
  unfold tL Lib.trimLeftB
  rw [List.dropWhile_cons]
  simp [h]

/-- A number's digits, the zeros at the right left out, begin with no 0. -/
theorem tR_first {c : UInt8} {l : List UInt8} (h : ¬ c = 48) : ∃ m, tR (c :: l) = c :: m := by
  have h1 := tR_split (c :: l)
  match hm : tR (c :: l) with
  | [] =>
    rw [hm] at h1
    simp only [List.length_cons, List.length_nil, Nat.sub_zero, List.nil_append] at h1
    unfold zs at h1
    rw [List.replicate_succ] at h1
    exact absurd (List.cons.inj h1).1 h
  | d :: m =>
    rw [hm] at h1
    have := (List.cons.inj h1).1
    exact ⟨m, by rw [this]⟩

/-- A number times a power of ten. -/
def ofF (n e : Int) : Bool × List UInt8 × Int := if e < -2000 ∨ 2000 < e then (false, [], 0) else (normF (decide (n < 0)) (Lib.decDigits n.natAbs) e).1

theorem ofF_zero (e : Int) : ofF 0 e = (false, [], 0) := by
  unfold ofF
  split
  · rfl
  · show (normF false (Lib.decDigits 0) e).1 = _
    rw [show Lib.decDigits 0 = [48] from dec_small (by omega), norm_zero]

theorem ofF_num {n e : Int} (h : ¬ n = 0) (hn : n.natAbs < 10 ^ 19) (h0 : -900 ≤ e) (h1 : e ≤ 900) :
    ofF n e = (decide (n < 0), tR (Lib.decDigits n.natAbs), e + ((Lib.decDigits n.natAbs).length - (tR (Lib.decDigits n.natAbs)).length)) ∧
      RightP (decide (n < 0)) (tR (Lib.decDigits n.natAbs)) (e + ((Lib.decDigits n.natAbs).length - (tR (Lib.decDigits n.natAbs)).length)) := by
  have hl := dec_len n.natAbs 19 hn (by omega)
  obtain ⟨c, l, hc, hc2⟩ := dec_first n.natAbs (by omega)
  have hd := dec_isD n.natAbs
  have hs := tR_split (Lib.decDigits n.natAbs)
  have hk := tR_lastOk (Lib.decDigits n.natAbs)
  have hlen := tR_len (Lib.decDigits n.natAbs)
  have hf := tR_first (l := l) hc2
  rw [← hc] at hf
  unfold ofF normF
  generalize Lib.decDigits n.natAbs = D at *
  obtain ⟨m, hm⟩ := hf
  have hd2 : ∀ c ∈ tR D, isD c = true := fun c h => hd c (by rw [hs]; simp [h])
  rw [hm] at hk hlen hd2 ⊢
  simp only [List.length_cons] at hlen
  rw [if_neg (by omega), tL_ne hc2, if_neg (by simp), if_neg (by simp only [List.length_cons]; omega), if_neg (by simp only [List.length_cons]; omega)]
  refine ⟨rfl, ?_⟩
  rw [right_cons (by simp)]
  refine ⟨fun i hi => isD_iff.1 (hd2 _ ?_), by simp only [List.length_cons]; omega, fun h => hc2 ((u8_eq (n := 48) (by omega)).1 h), fun h => ?_, by simp only [List.length_cons]; omega, by simp only [List.length_cons]; omega⟩
  · simp only [Int.toNat_natCast, List.getD_eq_getElem?_getD, List.getElem?_eq_getElem hi, Option.getD_some]
    exact List.getElem_mem hi
  · rcases snoc_casesU (c :: m) with h2 | ⟨r, w, h2⟩
    · simp at h2
    · rw [h2] at h hk
      have e : ((r ++ [w]).length : Int) - 1 = r.length := by simp
      rw [e, at_last] at h
      exact hk w r rfl ((u8_eq (n := 48) (by omega)).1 h)

theorem ofF_len (n e : Int) (h0 : -9223372036854775808 ≤ n) (h1 : n ≤ 9223372036854775807) : (ofF n e).2.1.length ≤ 1000 := by
  have h := dec_len n.natAbs 19 (by omega) (by omega)
  have h2 := tR_len (Lib.decDigits n.natAbs)
  have h3 := tL_len (tR (Lib.decDigits n.natAbs))
  unfold ofF normF
  repeat' split
  all_goals first | decide | (dsimp only; omega)

/-- The whole number that a decimal is. -/
def intF (neg : Bool) (s : List UInt8) (e : Int) : Int × Bool :=
  if ¬ RightP neg s e ∨ e < 0 ∨ 19 < s.length + e then (0, false)
  else if 4611686018427387904 < numL (s ++ zs e.toNat) then (0, false)
  else if neg = true then (-(numL (s ++ zs e.toNat) : Int), true) else ((numL (s ++ zs e.toNat) : Int), true)

theorem intF_of (n : Int) (h0 : -4611686018427387904 ≤ n) (h1 : n ≤ 4611686018427387904) : intF (ofF n 0).1 (ofF n 0).2.1 (ofF n 0).2.2 = (n, true) := by
  by_cases h : n = 0
  · subst h
    rw [ofF_zero]
    rfl
  · obtain ⟨e1, e2⟩ := ofF_num h (e := 0) (by omega) (by omega) (by omega)
    rw [e1]
    have hs := tR_split (Lib.decDigits n.natAbs)
    have hn := dec_num n.natAbs
    have hl := dec_len n.natAbs 19 (by omega) (by omega)
    have hlen := tR_len (Lib.decDigits n.natAbs)
    generalize Lib.decDigits n.natAbs = D at *
    dsimp only
    unfold intF
    rw [if_neg (fun h => h.elim (fun h => h e2) (fun h => by omega)), show (0 + ((D.length : Int) - (tR D).length)).toNat = D.length - (tR D).length by omega, ← hs, hn, if_neg (by omega)]
    by_cases hn0 : n < 0
    · rw [if_pos (decide_eq_true hn0)]
      congr 1
      omega
    · rw [if_neg (by simp; omega)]
      congr 1
      omega

/-! ### Numbers of one power of ten lie as the numbers do -/

end Go.Proofs.YteidmimpkipcfaaDoor.Flow

/- WHOLE: whole numbers among the bits of doubles, in plain words. -/
namespace Go.Proofs.YteidmimpkipcfaaDoor.Flow
open Go

/-- A number below 1 halved, as long as it is even. -/
def hvG : Nat → Nat → Int → Nat × Int
  | 0, m, e => (m, e)
  | k + 1, m, e => if e < 0 ∧ m % 2 = 0 ∧ 0 < m then hvG k (m / 2) (e + 1) else (m, e)

theorem hvG_fuel : ∀ (k k' m : Nat) (e : Int), m ≤ k → m ≤ k' → hvG k m e = hvG k' m e
  | 0, 0, m, e, _, _ => rfl
  | 0, k' + 1, m, e, h, _ => by
    unfold hvG
    rw [if_neg (by omega)]
  | k + 1, 0, m, e, _, h => by
    unfold hvG
    rw [if_neg (by omega)]
  | k + 1, k' + 1, m, e, h, h' => by
    unfold hvG
    split
    · exact hvG_fuel k k' (m / 2) (e + 1) (by omega) (by omega)
    · rfl

def hv (m : Nat) (e : Int) : Nat × Int := hvG m m e
theorem hv_stop {m : Nat} {e : Int} (h : ¬ (e < 0 ∧ m % 2 = 0 ∧ 0 < m)) : hv m e = (m, e) := by
  unfold hv
  cases m with
  | zero => rfl
  | succ m =>
    unfold hvG
    rw [if_neg h]
theorem hv_step {m : Nat} {e : Int} (h : e < 0 ∧ m % 2 = 0 ∧ 0 < m) : hv m e = hv (m / 2) (e + 1) := by
  unfold hv
  cases m with
  | zero => omega
  | succ m =>
    conv => lhs; unfold hvG
    rw [if_pos h]
    exact hvG_fuel _ _ _ _ (by omega) (Nat.le_refl _)

/-- The whole number up to 2^53 that m times 2 to the e is. -/
def whF (r : Nat × Int) : Option Nat :=
  if r.1 = 0 then some 0 else if r.2 < 0 then none else if 9007199254740992 < r.1 * 2 ^ r.2.toNat then none else some (r.1 * 2 ^ r.2.toNat)

/-- The whole number that bits are. -/
def wholeF (b : Nat) : Option Int :=
  if xP b = 2047 then none
  else match whF (hv (mB (b % 9223372036854775808)) (eB (b % 9223372036854775808))) with
    | none => none
    | some n => some (if 9223372036854775808 ≤ b then -(n : Int) else n)

/-- A whole number's text, if there is one. -/
def wText : Option Int → List UInt8 × Bool
  | none => ([], false)
  | some n => (textF (ofF n 0).1 (ofF n 0).2.1 (ofF n 0).2.2, true)

/-! ### The number's own bits -/

end Go.Proofs.YteidmimpkipcfaaDoor.Flow

/- DEC: the reference: digits, the form, the exponent. -/
namespace Go.Proofs.YteidmimpkipcfaaDoor.Flow
open Go

end Go.Proofs.YteidmimpkipcfaaDoor.Flow

/- DEC: the program: closures over a place in a text. -/
namespace Go.Proofs.YteidmimpkipcfaaDoor.Flow
open Go

/-- What Parse's closures share: the place, the text; and the first closure. -/
abbrev pO (s : List UInt8) (i : Int) : Ow := [(5, .var [.i .i64 i]), (1, .var [.s s])]
abbrev pF : D := .fn 93 [.pv 5 0, .pv 1 0]
abbrev pO3 (s : List UInt8) (i : Int) : Ow := [(5, .var [.i .i64 i]), (6, .var [pF]), (1, .var [.s s])]

theorem is_ctr (set : List UInt8) (p : Int → Prop) [DecidablePred p] (hp : ∀ c : Int, 0 ≤ c → c < 256 → (0 ≤ Lib.indexByte set c.toNat.toUInt8 ↔ p c)) (s : List UInt8) (i : Nat) (hs : s.length ≤ 1048576) (hi : i ≤ s.length) :
    CtrO Tryd.prog 93 [.s set, .pv 5 0, .pv 1 0] (pO s i) (.b (decide (i < s.length ∧ p (at' s i)))) (pO s i) := by
  have hr := at_range s i
  have h1 := hp (at' s i) hr.1 hr.2
  have c1 := indexByte_ctr set (at' s i)
  generalize Lib.indexByte set (at' s i).toNat.toUInt8 = z at h1 c1
  refine r_methM Tryd.func93 rfl Tryd.ntmps93 Tryd.results93 rfl rfl rfl rfl rfl fun X hL hX => ?_
  repeat' (first
    | with_reducible refine t_seq ?_ | with_reducible refine t_region ?_ | with_reducible refine c_nil ?_ | with_reducible refine n_then ?_
    | with_reducible refine t_ret ?_ | with_reducible refine t_skip ?_ | with_reducible refine t_exit ?_ | with_reducible refine t_block ?_
    | with_reducible refine n_block ?_ | with_reducible refine e_then ?_ | with_reducible refine x_then ?_ | with_reducible refine x_block ?_ | with_reducible refine t_draw ?_
    | refine r_val rfl rfl True.intro ?_ | refine r_gskip rfl rfl rfl ?_ | refine r_gskip2 rfl rfl rfl ?_ | refine r_gval rfl rfl rfl rfl True.intro ?_
    | refine t_true rfl ?_ | refine t_false rfl ?_
    | ((first | refine t_cond_d rfl (fun _ => ?_) (fun _ => ?_) | refine t_cond_i rfl (fun _ => ?_) (fun _ => ?_) | refine t_cond_j rfl (fun _ => ?_) (fun _ => ?_) | refine t_cond_s rfl (fun _ => ?_) (fun _ => ?_) | refine t_cond_n rfl (fun _ => ?_) (fun _ => ?_) | refine t_cond rfl (fun _ => ?_) (fun _ => ?_) | refine c_split_d rfl rfl (fun _ => ?_) (fun _ => ?_) | refine c_split_i rfl rfl (fun _ => ?_) (fun _ => ?_) | refine c_split_j rfl rfl (fun _ => ?_) (fun _ => ?_) | refine c_split_s rfl rfl (fun _ => ?_) (fun _ => ?_) | refine c_split_n rfl rfl (fun _ => ?_) (fun _ => ?_)) <;> try (first | contradiction | (exfalso; omega)))
    | refine r_val rfl rfl (by (first | omega | exact Nat.le_of_ble_eq_true rfl | (simp only [wrap_u8, IntKind.wrap_i64, IntKind.wrap_i32, wrap_u32', wrap_u64', InI]; (repeat' refine And.intro ?_ ?_) <;> omega) | ((repeat' refine And.intro ?_ ?_) <;> first | omega | rfl | exact Nat.le_refl _ | exact Nat.le_of_ble_eq_true rfl | exact bytesF_one _) | (simp_all; done) | (simp_all; omega))) ?_ | refine r_gval rfl rfl rfl rfl (by (first | omega | exact Nat.le_of_ble_eq_true rfl | (simp only [wrap_u8, IntKind.wrap_i64, IntKind.wrap_i32, wrap_u32', wrap_u64', InI]; (repeat' refine And.intro ?_ ?_) <;> omega) | ((repeat' refine And.intro ?_ ?_) <;> first | omega | rfl | exact Nat.le_refl _ | exact Nat.le_of_ble_eq_true rfl | exact bytesF_one _) | (simp_all; done) | (simp_all; omega))) ?_
    | refine r_obj rfl rfl (by (first | omega | exact Nat.le_of_ble_eq_true rfl | (simp only [wrap_u8, IntKind.wrap_i64, IntKind.wrap_i32, wrap_u32', wrap_u64', InI]; (repeat' refine And.intro ?_ ?_) <;> omega) | ((repeat' refine And.intro ?_ ?_) <;> first | omega | rfl | exact Nat.le_refl _ | exact Nat.le_of_ble_eq_true rfl | exact bytesF_one _) | (simp_all; done) | (simp_all; omega))) ?_ | refine r_sto rfl (by (first | omega | exact Nat.le_of_ble_eq_true rfl | (simp only [wrap_u8, IntKind.wrap_i64, IntKind.wrap_i32, wrap_u32', wrap_u64', InI]; (repeat' refine And.intro ?_ ?_) <;> omega) | ((repeat' refine And.intro ?_ ?_) <;> first | omega | rfl | exact Nat.le_refl _ | exact Nat.le_of_ble_eq_true rfl | exact bytesF_one _) | (simp_all; done) | (simp_all; omega))) ?_ | refine r_gobj rfl rfl rfl rfl (by (first | omega | exact Nat.le_of_ble_eq_true rfl | (simp only [wrap_u8, IntKind.wrap_i64, IntKind.wrap_i32, wrap_u32', wrap_u64', InI]; (repeat' refine And.intro ?_ ?_) <;> omega) | ((repeat' refine And.intro ?_ ?_) <;> first | omega | rfl | exact Nat.le_refl _ | exact Nat.le_of_ble_eq_true rfl | exact bytesF_one _) | (simp_all; done) | (simp_all; omega))) ?_
    | refine e_hit rfl ?_ | refine e_miss rfl ?_
    | refine ⟨by kernel_rfl, ?_⟩ | refine x_endM rfl ?_ ?_ | refine n_endM rfl ?_ ?_ | refine r_gcall (f := 94) rfl rfl rfl rfl Tryd.call94 rfl c1 ?_ | ((with_reducible refine c_grd ?_); (fail_if_success (refine c_lit true rfl rfl rfl ?_)); (fail_if_success (refine c_lit false rfl rfl rfl ?_)); refine c_split rfl rfl (fun _ => ?_) (fun _ => ?_)))
  · exact congrArg D.b (decide_eq_decide.2 ⟨fun h => ⟨by omega, h1.1 h⟩, fun h => h1.2 h.2⟩)
  · exact ⟨⟨rfl, rfl, trivial⟩⟩
  · rw [decide_eq_false (fun h => ‹¬ (i : Int) < s.length› (by omega))]
  · exact ⟨⟨rfl, rfl, trivial⟩⟩

theorem index_one (a : UInt8) (c : Int) (h0 : 0 ≤ c) (h1 : c < 256) : 0 ≤ Lib.indexByte [a] c.toNat.toUInt8 ↔ c = (a.toNat : Int) := by
  have e : (a == c.toNat.toUInt8) = decide (c = (a.toNat : Int)) := by
    rw [Bool.eq_iff_iff, beq_iff_eq, decide_eq_true_iff]
    constructor
    · rintro rfl
      have : c.toNat < 256 := by omega
      simp [Nat.toUInt8]
      omega
    · rintro rfl
      simp [Nat.toUInt8]
  unfold Lib.indexByte
  rw [e]
  by_cases h : c = (a.toNat : Int)
  · simp [h]
  · simp [h, Lib.indexByte]

theorem index_cons (a : UInt8) (l : List UInt8) (c : Int) (h0 : 0 ≤ c) (h1 : c < 256) : 0 ≤ Lib.indexByte (a :: l) c.toNat.toUInt8 ↔ c = (a.toNat : Int) ∨ 0 ≤ Lib.indexByte l c.toNat.toUInt8 := by
  have e : (a == c.toNat.toUInt8) = decide (c = (a.toNat : Int)) := by
    rw [Bool.eq_iff_iff, beq_iff_eq, decide_eq_true_iff]
    constructor
    · rintro rfl
      have : c.toNat < 256 := by omega
      simp [Nat.toUInt8]
      omega
    · rintro rfl
      simp [Nat.toUInt8]
  have hg := Lib.indexByte_ge l c.toNat.toUInt8
  conv => lhs; unfold Lib.indexByte
  rw [e]
  generalize Lib.indexByte l c.toNat.toUInt8 = z at *
  by_cases h : c = (a.toNat : Int)
  · simp [h]
  · by_cases hz : z = -1
    · simp [h, hz]
    · simp [h, hz]
      omega

theorem set_digits : ∀ c : Int, 0 ≤ c → c < 256 → (0 ≤ Lib.indexByte ({ data := #[48, 49, 50, 51, 52, 53, 54, 55, 56, 57] } : ByteArray).data.toList c.toNat.toUInt8 ↔ 48 ≤ c ∧ c ≤ 57) := fun c h0 h1 => by
  show 0 ≤ Lib.indexByte [48, 49, 50, 51, 52, 53, 54, 55, 56, 57] c.toNat.toUInt8 ↔ _
  rw [index_cons _ _ _ h0 h1, index_cons _ _ _ h0 h1, index_cons _ _ _ h0 h1, index_cons _ _ _ h0 h1, index_cons _ _ _ h0 h1, index_cons _ _ _ h0 h1, index_cons _ _ _ h0 h1, index_cons _ _ _ h0 h1, index_cons _ _ _ h0 h1, index_one _ _ h0 h1]
  simp
  omega
theorem set_1 (a : UInt8) : ∀ c : Int, 0 ≤ c → c < 256 → (0 ≤ Lib.indexByte [a] c.toNat.toUInt8 ↔ c = (a.toNat : Int)) := fun c h0 h1 => index_one a c h0 h1
theorem set_2 (a b : UInt8) : ∀ c : Int, 0 ≤ c → c < 256 → (0 ≤ Lib.indexByte [a, b] c.toNat.toUInt8 ↔ c = (a.toNat : Int) ∨ c = (b.toNat : Int)) := fun c h0 h1 => by rw [index_cons _ _ _ h0 h1, index_one _ _ h0 h1]

end Go.Proofs.YteidmimpkipcfaaDoor.Flow

/- DEC: the program: the number that a text begins with. -/
namespace Go.Proofs.YteidmimpkipcfaaDoor.Flow
open Go

theorem digits_ctr (s : List UInt8) (i : Nat) (hs : s.length ≤ 1048576) (hi : i ≤ s.length) :
    CtrO Tryd.prog 95 [.pv 5 0, .pv 6 0, .pv 1 0] (pO3 s i) (.s (dgT s i)) (pO3 s ((i + (dgT s i).length : Nat) : Int)) := by
  refine r_methM Tryd.func95 rfl Tryd.ntmps95 Tryd.results95 rfl rfl rfl rfl rfl fun X hL hX => ?_
  repeat' (first
    | with_reducible refine t_seq ?_ | with_reducible refine t_region ?_ | with_reducible refine c_nil ?_ | with_reducible refine n_then ?_
    | with_reducible refine t_ret ?_ | with_reducible refine t_skip ?_ | with_reducible refine t_exit ?_ | with_reducible refine t_block ?_
    | with_reducible refine n_block ?_ | with_reducible refine e_then ?_ | with_reducible refine x_then ?_ | with_reducible refine x_block ?_ | with_reducible refine t_draw ?_
    | refine r_val rfl rfl True.intro ?_ | refine r_gskip rfl rfl rfl ?_ | refine r_gskip2 rfl rfl rfl ?_ | refine r_gval rfl rfl rfl rfl True.intro ?_
    | refine t_true rfl ?_ | refine t_false rfl ?_
    | ((first | refine t_cond_d rfl (fun _ => ?_) (fun _ => ?_) | refine t_cond_i rfl (fun _ => ?_) (fun _ => ?_) | refine t_cond_j rfl (fun _ => ?_) (fun _ => ?_) | refine t_cond_s rfl (fun _ => ?_) (fun _ => ?_) | refine t_cond_n rfl (fun _ => ?_) (fun _ => ?_) | refine t_cond rfl (fun _ => ?_) (fun _ => ?_) | refine c_split_d rfl rfl (fun _ => ?_) (fun _ => ?_) | refine c_split_i rfl rfl (fun _ => ?_) (fun _ => ?_) | refine c_split_j rfl rfl (fun _ => ?_) (fun _ => ?_) | refine c_split_s rfl rfl (fun _ => ?_) (fun _ => ?_) | refine c_split_n rfl rfl (fun _ => ?_) (fun _ => ?_)) <;> try (first | contradiction | (exfalso; omega)))
    | refine r_val rfl rfl (by (first | omega | exact Nat.le_of_ble_eq_true rfl | (simp only [wrap_u8, IntKind.wrap_i64, IntKind.wrap_i32, wrap_u32', wrap_u64', InI]; (repeat' refine And.intro ?_ ?_) <;> omega) | ((repeat' refine And.intro ?_ ?_) <;> first | omega | rfl | exact Nat.le_refl _ | exact Nat.le_of_ble_eq_true rfl | exact bytesF_one _) | (simp_all; done) | (simp_all; omega))) ?_ | refine r_gval rfl rfl rfl rfl (by (first | omega | exact Nat.le_of_ble_eq_true rfl | (simp only [wrap_u8, IntKind.wrap_i64, IntKind.wrap_i32, wrap_u32', wrap_u64', InI]; (repeat' refine And.intro ?_ ?_) <;> omega) | ((repeat' refine And.intro ?_ ?_) <;> first | omega | rfl | exact Nat.le_refl _ | exact Nat.le_of_ble_eq_true rfl | exact bytesF_one _) | (simp_all; done) | (simp_all; omega))) ?_
    | refine r_obj rfl rfl (by (first | omega | exact Nat.le_of_ble_eq_true rfl | (simp only [wrap_u8, IntKind.wrap_i64, IntKind.wrap_i32, wrap_u32', wrap_u64', InI]; (repeat' refine And.intro ?_ ?_) <;> omega) | ((repeat' refine And.intro ?_ ?_) <;> first | omega | rfl | exact Nat.le_refl _ | exact Nat.le_of_ble_eq_true rfl | exact bytesF_one _) | (simp_all; done) | (simp_all; omega))) ?_ | refine r_sto rfl (by (first | omega | exact Nat.le_of_ble_eq_true rfl | (simp only [wrap_u8, IntKind.wrap_i64, IntKind.wrap_i32, wrap_u32', wrap_u64', InI]; (repeat' refine And.intro ?_ ?_) <;> omega) | ((repeat' refine And.intro ?_ ?_) <;> first | omega | rfl | exact Nat.le_refl _ | exact Nat.le_of_ble_eq_true rfl | exact bytesF_one _) | (simp_all; done) | (simp_all; omega))) ?_ | refine r_gobj rfl rfl rfl rfl (by (first | omega | exact Nat.le_of_ble_eq_true rfl | (simp only [wrap_u8, IntKind.wrap_i64, IntKind.wrap_i32, wrap_u32', wrap_u64', InI]; (repeat' refine And.intro ?_ ?_) <;> omega) | ((repeat' refine And.intro ?_ ?_) <;> first | omega | rfl | exact Nat.le_refl _ | exact Nat.le_of_ble_eq_true rfl | exact bytesF_one _) | (simp_all; done) | (simp_all; omega))) ?_
    | refine e_hit rfl ?_ | refine e_miss rfl ?_
    | refine ⟨by kernel_rfl, ?_⟩ | refine x_endM rfl ?_ ?_ | refine n_endM rfl ?_ ?_ | ((with_reducible refine c_grd ?_); (fail_if_success (refine c_lit true rfl rfl rfl ?_)); (fail_if_success (refine c_lit false rfl rfl rfl ?_)); refine c_split rfl rfl (fun _ => ?_) (fun _ => ?_)))
  refine T.loop hL (fun k : Nat => [(0, .pv 5 0), (1, .pv 6 0), (2, .pv 1 0), (4, .i .i64 i)]) (fun k => pO3 s k) (fun k => i ≤ k ∧ k ≤ s.length ∧ k + (dgT s k).length = i + (dgT s i).length) (fun k => s.length - k) i ⟨Nat.le_refl _, hi, rfl⟩
    ⟨⟨rfl, rfl, rfl, rfl, trivial⟩, ⟨rfl, rfl, rfl, trivial⟩, rfl, by rw [hX]; intro k hk; exact hk⟩ ?_
  rintro k ⟨g1, g2, g3⟩
  have c1 := is_ctr _ (fun c => 48 ≤ c ∧ c ≤ 57) set_digits s k hs g2
  by_cases hd : k < s.length ∧ 48 ≤ at' s k ∧ at' s k ≤ 57
  · rw [decide_eq_true (by exact hd)] at c1
    have h2 := dgT_more hd.1 hd.2
    have g3 := fun _ : Unit => g3
    repeat' (first
      | with_reducible refine t_seq ?_ | with_reducible refine t_region ?_ | with_reducible refine c_nil ?_ | with_reducible refine n_then ?_
      | with_reducible refine t_ret ?_ | with_reducible refine t_skip ?_ | with_reducible refine t_exit ?_ | with_reducible refine t_block ?_
      | with_reducible refine n_block ?_ | with_reducible refine e_then ?_ | with_reducible refine x_then ?_ | with_reducible refine x_block ?_ | with_reducible refine t_draw ?_
      | refine r_val rfl rfl True.intro ?_ | refine r_gskip rfl rfl rfl ?_ | refine r_gskip2 rfl rfl rfl ?_ | refine r_gval rfl rfl rfl rfl True.intro ?_
      | refine t_true rfl ?_ | refine t_false rfl ?_
      | ((first | refine t_cond_d rfl (fun _ => ?_) (fun _ => ?_) | refine t_cond_i rfl (fun _ => ?_) (fun _ => ?_) | refine t_cond_j rfl (fun _ => ?_) (fun _ => ?_) | refine t_cond_s rfl (fun _ => ?_) (fun _ => ?_) | refine t_cond_n rfl (fun _ => ?_) (fun _ => ?_) | refine t_cond rfl (fun _ => ?_) (fun _ => ?_) | refine c_split_d rfl rfl (fun _ => ?_) (fun _ => ?_) | refine c_split_i rfl rfl (fun _ => ?_) (fun _ => ?_) | refine c_split_j rfl rfl (fun _ => ?_) (fun _ => ?_) | refine c_split_s rfl rfl (fun _ => ?_) (fun _ => ?_) | refine c_split_n rfl rfl (fun _ => ?_) (fun _ => ?_)) <;> try (first | contradiction | (exfalso; omega)))
      | refine r_val rfl rfl (by (first | omega | exact Nat.le_of_ble_eq_true rfl | (simp only [wrap_u8, IntKind.wrap_i64, IntKind.wrap_i32, wrap_u32', wrap_u64', InI]; (repeat' refine And.intro ?_ ?_) <;> omega) | ((repeat' refine And.intro ?_ ?_) <;> first | omega | rfl | exact Nat.le_refl _ | exact Nat.le_of_ble_eq_true rfl | exact bytesF_one _) | (simp_all; done) | (simp_all; omega))) ?_ | refine r_gval rfl rfl rfl rfl (by (first | omega | exact Nat.le_of_ble_eq_true rfl | (simp only [wrap_u8, IntKind.wrap_i64, IntKind.wrap_i32, wrap_u32', wrap_u64', InI]; (repeat' refine And.intro ?_ ?_) <;> omega) | ((repeat' refine And.intro ?_ ?_) <;> first | omega | rfl | exact Nat.le_refl _ | exact Nat.le_of_ble_eq_true rfl | exact bytesF_one _) | (simp_all; done) | (simp_all; omega))) ?_
      | refine r_obj rfl rfl (by (first | omega | exact Nat.le_of_ble_eq_true rfl | (simp only [wrap_u8, IntKind.wrap_i64, IntKind.wrap_i32, wrap_u32', wrap_u64', InI]; (repeat' refine And.intro ?_ ?_) <;> omega) | ((repeat' refine And.intro ?_ ?_) <;> first | omega | rfl | exact Nat.le_refl _ | exact Nat.le_of_ble_eq_true rfl | exact bytesF_one _) | (simp_all; done) | (simp_all; omega))) ?_ | refine r_sto rfl (by (first | omega | exact Nat.le_of_ble_eq_true rfl | (simp only [wrap_u8, IntKind.wrap_i64, IntKind.wrap_i32, wrap_u32', wrap_u64', InI]; (repeat' refine And.intro ?_ ?_) <;> omega) | ((repeat' refine And.intro ?_ ?_) <;> first | omega | rfl | exact Nat.le_refl _ | exact Nat.le_of_ble_eq_true rfl | exact bytesF_one _) | (simp_all; done) | (simp_all; omega))) ?_ | refine r_gobj rfl rfl rfl rfl (by (first | omega | exact Nat.le_of_ble_eq_true rfl | (simp only [wrap_u8, IntKind.wrap_i64, IntKind.wrap_i32, wrap_u32', wrap_u64', InI]; (repeat' refine And.intro ?_ ?_) <;> omega) | ((repeat' refine And.intro ?_ ?_) <;> first | omega | rfl | exact Nat.le_refl _ | exact Nat.le_of_ble_eq_true rfl | exact bytesF_one _) | (simp_all; done) | (simp_all; omega))) ?_
      | refine e_hit rfl ?_ | refine e_miss rfl ?_
      | refine ⟨by kernel_rfl, ?_⟩ | refine x_endM rfl ?_ ?_ | refine n_endM rfl ?_ ?_ | refine r_lend2 (f := 93) 5 1 rfl rfl Tryd.call93 rfl rfl rfl rfl rfl rfl rfl rfl rfl c1 ?_ | ((with_reducible refine c_grd ?_); (fail_if_success (refine c_lit true rfl rfl rfl ?_)); (fail_if_success (refine c_lit false rfl rfl rfl ?_)); refine c_split rfl rfl (fun _ => ?_) (fun _ => ?_)))
    exact ⟨k + 1, ⟨by omega, by omega, by rw [← g3 (), h2, List.length_cons]; omega⟩, by omega, ⟨rfl, rfl, rfl, rfl, trivial⟩, ⟨rfl, rfl, rfl, trivial⟩, rfl, by rw [hX]; intro k hk; exact hk⟩
  · rw [decide_eq_false (by exact hd)] at c1
    have h2 : dgT s k = [] := dgT_stop (by
      by_cases h : k < s.length
      · exact .inr (fun h3 => hd ⟨h, h3⟩)
      · exact .inl h)
    rw [h2] at g3
    have hk : k = i + (dgT s i).length := by simpa using g3
    have hcut := fun _ : Unit => dgT_cut s i
    subst hk
    clear g3 h2
    repeat' (first
      | with_reducible refine t_seq ?_ | with_reducible refine t_region ?_ | with_reducible refine c_nil ?_ | with_reducible refine n_then ?_
      | with_reducible refine t_ret ?_ | with_reducible refine t_skip ?_ | with_reducible refine t_exit ?_ | with_reducible refine t_block ?_
      | with_reducible refine n_block ?_ | with_reducible refine e_then ?_ | with_reducible refine x_then ?_ | with_reducible refine x_block ?_ | with_reducible refine t_draw ?_
      | refine r_val rfl rfl True.intro ?_ | refine r_gskip rfl rfl rfl ?_ | refine r_gskip2 rfl rfl rfl ?_ | refine r_gval rfl rfl rfl rfl True.intro ?_
      | refine t_true rfl ?_ | refine t_false rfl ?_
      | ((first | refine t_cond_d rfl (fun _ => ?_) (fun _ => ?_) | refine t_cond_i rfl (fun _ => ?_) (fun _ => ?_) | refine t_cond_j rfl (fun _ => ?_) (fun _ => ?_) | refine t_cond_s rfl (fun _ => ?_) (fun _ => ?_) | refine t_cond_n rfl (fun _ => ?_) (fun _ => ?_) | refine t_cond rfl (fun _ => ?_) (fun _ => ?_) | refine c_split_d rfl rfl (fun _ => ?_) (fun _ => ?_) | refine c_split_i rfl rfl (fun _ => ?_) (fun _ => ?_) | refine c_split_j rfl rfl (fun _ => ?_) (fun _ => ?_) | refine c_split_s rfl rfl (fun _ => ?_) (fun _ => ?_) | refine c_split_n rfl rfl (fun _ => ?_) (fun _ => ?_)) <;> try (first | contradiction | (exfalso; omega)))
      | refine r_val rfl rfl (by (first | omega | exact Nat.le_of_ble_eq_true rfl | (simp only [wrap_u8, IntKind.wrap_i64, IntKind.wrap_i32, wrap_u32', wrap_u64', InI]; (repeat' refine And.intro ?_ ?_) <;> omega) | ((repeat' refine And.intro ?_ ?_) <;> first | omega | rfl | exact Nat.le_refl _ | exact Nat.le_of_ble_eq_true rfl | exact bytesF_one _) | (simp_all; done) | (simp_all; omega))) ?_ | refine r_gval rfl rfl rfl rfl (by (first | omega | exact Nat.le_of_ble_eq_true rfl | (simp only [wrap_u8, IntKind.wrap_i64, IntKind.wrap_i32, wrap_u32', wrap_u64', InI]; (repeat' refine And.intro ?_ ?_) <;> omega) | ((repeat' refine And.intro ?_ ?_) <;> first | omega | rfl | exact Nat.le_refl _ | exact Nat.le_of_ble_eq_true rfl | exact bytesF_one _) | (simp_all; done) | (simp_all; omega))) ?_
      | refine r_obj rfl rfl (by (first | omega | exact Nat.le_of_ble_eq_true rfl | (simp only [wrap_u8, IntKind.wrap_i64, IntKind.wrap_i32, wrap_u32', wrap_u64', InI]; (repeat' refine And.intro ?_ ?_) <;> omega) | ((repeat' refine And.intro ?_ ?_) <;> first | omega | rfl | exact Nat.le_refl _ | exact Nat.le_of_ble_eq_true rfl | exact bytesF_one _) | (simp_all; done) | (simp_all; omega))) ?_ | refine r_sto rfl (by (first | omega | exact Nat.le_of_ble_eq_true rfl | (simp only [wrap_u8, IntKind.wrap_i64, IntKind.wrap_i32, wrap_u32', wrap_u64', InI]; (repeat' refine And.intro ?_ ?_) <;> omega) | ((repeat' refine And.intro ?_ ?_) <;> first | omega | rfl | exact Nat.le_refl _ | exact Nat.le_of_ble_eq_true rfl | exact bytesF_one _) | (simp_all; done) | (simp_all; omega))) ?_ | refine r_gobj rfl rfl rfl rfl (by (first | omega | exact Nat.le_of_ble_eq_true rfl | (simp only [wrap_u8, IntKind.wrap_i64, IntKind.wrap_i32, wrap_u32', wrap_u64', InI]; (repeat' refine And.intro ?_ ?_) <;> omega) | ((repeat' refine And.intro ?_ ?_) <;> first | omega | rfl | exact Nat.le_refl _ | exact Nat.le_of_ble_eq_true rfl | exact bytesF_one _) | (simp_all; done) | (simp_all; omega))) ?_
      | refine e_hit rfl ?_ | refine e_miss rfl ?_
      | refine ⟨by kernel_rfl, ?_⟩ | refine x_endM rfl ?_ ?_ | refine n_endM rfl ?_ ?_ | refine r_lend2 (f := 93) 5 1 rfl rfl Tryd.call93 rfl rfl rfl rfl rfl rfl rfl rfl rfl c1 ?_ | ((with_reducible refine c_grd ?_); (fail_if_success (refine c_lit true rfl rfl rfl ?_)); (fail_if_success (refine c_lit false rfl rfl rfl ?_)); refine c_split rfl rfl (fun _ => ?_) (fun _ => ?_)))
    · exact congrArg D.s (by rw [Int.toNat_natCast, Int.toNat_natCast]; exact hcut ())
    · exact ⟨⟨rfl, rfl, rfl, trivial⟩⟩

theorem powP_snoc (l : List UInt8) (c : UInt8) : powP (l ++ [c]) = min (10 * powP l + ((c.toNat : Int) - 48)) 1099511627776 := by simp [powP]

theorem power_ctr (x : List UInt8) (hx : ∀ c ∈ x, isD c = true) (hs : x.length ≤ 1048576) : Ctr Tryd.prog 96 [.s x] (.i .i64 (powP x)) := by
  refine r_fun Tryd.func96 rfl Tryd.ntmps96 Tryd.results96 rfl rfl fun X hL hX => ?_
  repeat' (first
    | with_reducible refine t_seq ?_ | with_reducible refine t_region ?_ | with_reducible refine c_nil ?_ | with_reducible refine n_then ?_
    | with_reducible refine t_ret ?_ | with_reducible refine t_skip ?_ | with_reducible refine t_exit ?_ | with_reducible refine t_block ?_
    | with_reducible refine n_block ?_ | with_reducible refine e_then ?_ | with_reducible refine x_then ?_ | with_reducible refine x_block ?_ | with_reducible refine t_draw ?_
    | refine r_val rfl rfl True.intro ?_ | refine r_gskip rfl rfl rfl ?_ | refine r_gskip2 rfl rfl rfl ?_ | refine r_gval rfl rfl rfl rfl True.intro ?_
    | refine t_true rfl ?_ | refine t_false rfl ?_
    | ((first | refine t_cond_d rfl (fun _ => ?_) (fun _ => ?_) | refine t_cond_i rfl (fun _ => ?_) (fun _ => ?_) | refine t_cond_j rfl (fun _ => ?_) (fun _ => ?_) | refine t_cond_s rfl (fun _ => ?_) (fun _ => ?_) | refine t_cond_n rfl (fun _ => ?_) (fun _ => ?_) | refine t_cond rfl (fun _ => ?_) (fun _ => ?_) | refine c_split_d rfl rfl (fun _ => ?_) (fun _ => ?_) | refine c_split_i rfl rfl (fun _ => ?_) (fun _ => ?_) | refine c_split_j rfl rfl (fun _ => ?_) (fun _ => ?_) | refine c_split_s rfl rfl (fun _ => ?_) (fun _ => ?_) | refine c_split_n rfl rfl (fun _ => ?_) (fun _ => ?_)) <;> try (first | contradiction | (exfalso; omega)))
    | refine r_val rfl rfl (by (first | omega | exact Nat.le_of_ble_eq_true rfl | (simp only [wrap_u8, IntKind.wrap_i64, IntKind.wrap_i32, wrap_u32', wrap_u64', InI]; (repeat' refine And.intro ?_ ?_) <;> omega) | ((repeat' refine And.intro ?_ ?_) <;> first | omega | rfl | exact Nat.le_refl _ | exact Nat.le_of_ble_eq_true rfl | exact bytesF_one _) | (simp_all; done) | (simp_all; omega))) ?_ | refine r_gval rfl rfl rfl rfl (by (first | omega | exact Nat.le_of_ble_eq_true rfl | (simp only [wrap_u8, IntKind.wrap_i64, IntKind.wrap_i32, wrap_u32', wrap_u64', InI]; (repeat' refine And.intro ?_ ?_) <;> omega) | ((repeat' refine And.intro ?_ ?_) <;> first | omega | rfl | exact Nat.le_refl _ | exact Nat.le_of_ble_eq_true rfl | exact bytesF_one _) | (simp_all; done) | (simp_all; omega))) ?_
    | refine r_obj rfl rfl (by (first | omega | exact Nat.le_of_ble_eq_true rfl | (simp only [wrap_u8, IntKind.wrap_i64, IntKind.wrap_i32, wrap_u32', wrap_u64', InI]; (repeat' refine And.intro ?_ ?_) <;> omega) | ((repeat' refine And.intro ?_ ?_) <;> first | omega | rfl | exact Nat.le_refl _ | exact Nat.le_of_ble_eq_true rfl | exact bytesF_one _) | (simp_all; done) | (simp_all; omega))) ?_ | refine r_sto rfl (by (first | omega | exact Nat.le_of_ble_eq_true rfl | (simp only [wrap_u8, IntKind.wrap_i64, IntKind.wrap_i32, wrap_u32', wrap_u64', InI]; (repeat' refine And.intro ?_ ?_) <;> omega) | ((repeat' refine And.intro ?_ ?_) <;> first | omega | rfl | exact Nat.le_refl _ | exact Nat.le_of_ble_eq_true rfl | exact bytesF_one _) | (simp_all; done) | (simp_all; omega))) ?_ | refine r_gobj rfl rfl rfl rfl (by (first | omega | exact Nat.le_of_ble_eq_true rfl | (simp only [wrap_u8, IntKind.wrap_i64, IntKind.wrap_i32, wrap_u32', wrap_u64', InI]; (repeat' refine And.intro ?_ ?_) <;> omega) | ((repeat' refine And.intro ?_ ?_) <;> first | omega | rfl | exact Nat.le_refl _ | exact Nat.le_of_ble_eq_true rfl | exact bytesF_one _) | (simp_all; done) | (simp_all; omega))) ?_
    | refine e_hit rfl ?_ | refine e_miss rfl ?_
    | refine ⟨by kernel_rfl, ?_⟩ | refine x_end rfl ?_ | ((with_reducible refine c_grd ?_); (fail_if_success (refine c_lit true rfl rfl rfl ?_)); (fail_if_success (refine c_lit false rfl rfl rfl ?_)); refine c_split rfl rfl (fun _ => ?_) (fun _ => ?_)))
  refine T.loop hL (fun y : Nat × Int => [(0, .s x), (3, .i .i64 y.2), (6, .i .i64 x.length), (7, .i .i64 y.1)]) (fun _ => []) (fun y => y.1 ≤ x.length ∧ 0 ≤ y.2 ∧ y.2 ≤ 1099511627776 ∧ y.2 = powP (x.take y.1)) (fun y => x.length - y.1) (0, 0) ⟨Nat.zero_le _, by decide, by decide, rfl⟩
    ⟨⟨rfl, rfl, rfl, rfl, trivial⟩, trivial, rfl, by rw [hX]; intro k hk; cases hk⟩ ?_
  rintro ⟨i, n⟩ ⟨g1, g2, g3, g4⟩
  dsimp only at g1 g2 g3 g4 ⊢
  have hd : i < x.length → 48 ≤ at' x i ∧ at' x i ≤ 57 := fun h => isD_iff.1 (hx _ (by simp [List.getD_eq_getElem?_getD, h]))
  have g4 := fun _ : Unit => g4
  have hw : i < x.length → IntKind.i64.wrap (IntKind.u8.wrap (at' x i - 48)) = at' x i - 48 := fun h => by
    have := hd h
    rw [wrap_u8, IntKind.wrap_i64]
    omega
  by_cases hi : i < x.length
  · have hw := hw hi
    have hd := hd hi
    repeat' (first
      | with_reducible refine t_seq ?_ | with_reducible refine t_region ?_ | with_reducible refine c_nil ?_ | with_reducible refine n_then ?_
      | with_reducible refine t_ret ?_ | with_reducible refine t_skip ?_ | with_reducible refine t_exit ?_ | with_reducible refine t_block ?_
      | with_reducible refine n_block ?_ | with_reducible refine e_then ?_ | with_reducible refine x_then ?_ | with_reducible refine x_block ?_ | with_reducible refine t_draw ?_
      | refine r_val rfl rfl True.intro ?_ | refine r_gskip rfl rfl rfl ?_ | refine r_gskip2 rfl rfl rfl ?_ | refine r_gval rfl rfl rfl rfl True.intro ?_
      | refine t_true rfl ?_ | refine t_false rfl ?_
      | ((first | refine t_cond_d rfl (fun _ => ?_) (fun _ => ?_) | refine t_cond_i rfl (fun _ => ?_) (fun _ => ?_) | refine t_cond_j rfl (fun _ => ?_) (fun _ => ?_) | refine t_cond_s rfl (fun _ => ?_) (fun _ => ?_) | refine t_cond_n rfl (fun _ => ?_) (fun _ => ?_) | refine t_cond rfl (fun _ => ?_) (fun _ => ?_) | refine c_split_d rfl rfl (fun _ => ?_) (fun _ => ?_) | refine c_split_i rfl rfl (fun _ => ?_) (fun _ => ?_) | refine c_split_j rfl rfl (fun _ => ?_) (fun _ => ?_) | refine c_split_s rfl rfl (fun _ => ?_) (fun _ => ?_) | refine c_split_n rfl rfl (fun _ => ?_) (fun _ => ?_)) <;> try (first | (rename_i hz; exact Bool.noConfusion (show true = false from hz)) | (rename_i hz; exact Bool.noConfusion (show false = true from hz)) | (exfalso; omega)))
      | refine r_val rfl rfl (by (first | (rw [hw]; (repeat' refine And.intro ?_ ?_) <;> omega) | omega | exact Nat.le_of_ble_eq_true rfl | (simp only [wrap_u8, IntKind.wrap_i64, IntKind.wrap_i32, wrap_u32', wrap_u64', InI]; (repeat' refine And.intro ?_ ?_) <;> omega) | ((repeat' refine And.intro ?_ ?_) <;> first | omega | rfl | exact Nat.le_refl _ | exact Nat.le_of_ble_eq_true rfl | exact bytesF_one _) | (simp_all; done) | (simp_all; omega))) ?_ | refine r_gval rfl rfl rfl rfl (by (first | (rw [hw]; (repeat' refine And.intro ?_ ?_) <;> omega) | omega | exact Nat.le_of_ble_eq_true rfl | (simp only [wrap_u8, IntKind.wrap_i64, IntKind.wrap_i32, wrap_u32', wrap_u64', InI]; (repeat' refine And.intro ?_ ?_) <;> omega) | ((repeat' refine And.intro ?_ ?_) <;> first | omega | rfl | exact Nat.le_refl _ | exact Nat.le_of_ble_eq_true rfl | exact bytesF_one _) | (simp_all; done) | (simp_all; omega))) ?_
      | refine r_obj rfl rfl (by (first | (rw [hw]; (repeat' refine And.intro ?_ ?_) <;> omega) | omega | exact Nat.le_of_ble_eq_true rfl | (simp only [wrap_u8, IntKind.wrap_i64, IntKind.wrap_i32, wrap_u32', wrap_u64', InI]; (repeat' refine And.intro ?_ ?_) <;> omega) | ((repeat' refine And.intro ?_ ?_) <;> first | omega | rfl | exact Nat.le_refl _ | exact Nat.le_of_ble_eq_true rfl | exact bytesF_one _) | (simp_all; done) | (simp_all; omega))) ?_ | refine r_sto rfl (by (first | (rw [hw]; (repeat' refine And.intro ?_ ?_) <;> omega) | omega | exact Nat.le_of_ble_eq_true rfl | (simp only [wrap_u8, IntKind.wrap_i64, IntKind.wrap_i32, wrap_u32', wrap_u64', InI]; (repeat' refine And.intro ?_ ?_) <;> omega) | ((repeat' refine And.intro ?_ ?_) <;> first | omega | rfl | exact Nat.le_refl _ | exact Nat.le_of_ble_eq_true rfl | exact bytesF_one _) | (simp_all; done) | (simp_all; omega))) ?_ | refine r_gobj rfl rfl rfl rfl (by (first | (rw [hw]; (repeat' refine And.intro ?_ ?_) <;> omega) | omega | exact Nat.le_of_ble_eq_true rfl | (simp only [wrap_u8, IntKind.wrap_i64, IntKind.wrap_i32, wrap_u32', wrap_u64', InI]; (repeat' refine And.intro ?_ ?_) <;> omega) | ((repeat' refine And.intro ?_ ?_) <;> first | omega | rfl | exact Nat.le_refl _ | exact Nat.le_of_ble_eq_true rfl | exact bytesF_one _) | (simp_all; done) | (simp_all; omega))) ?_
      | refine e_hit rfl ?_ | refine e_miss rfl ?_
      | refine ⟨by kernel_rfl, ?_⟩ | refine x_end rfl ?_ | ((with_reducible refine c_grd ?_); (fail_if_success (refine c_lit true rfl rfl rfl ?_)); (fail_if_success (refine c_lit false rfl rfl rfl ?_)); refine c_split rfl rfl (fun _ => ?_) (fun _ => ?_)))
    refine ⟨(i + 1, min (10 * n + IntKind.i64.wrap (IntKind.u8.wrap (at' x i - 48))) 1099511627776), ⟨by dsimp only; omega, by dsimp only; omega, by dsimp only; omega, ?_⟩, by dsimp only; omega, ⟨rfl, rfl, rfl, rfl, trivial⟩, trivial, rfl, by rw [hX]; intro k hk; cases hk⟩
    dsimp only
    rw [hw, take_snoc x i hi, powP_snoc, ← g4 ()]
    rfl
  ·
    repeat' (first
      | with_reducible refine t_seq ?_ | with_reducible refine t_region ?_ | with_reducible refine c_nil ?_ | with_reducible refine n_then ?_
      | with_reducible refine t_ret ?_ | with_reducible refine t_skip ?_ | with_reducible refine t_exit ?_ | with_reducible refine t_block ?_
      | with_reducible refine n_block ?_ | with_reducible refine e_then ?_ | with_reducible refine x_then ?_ | with_reducible refine x_block ?_ | with_reducible refine t_draw ?_
      | refine r_val rfl rfl True.intro ?_ | refine r_gskip rfl rfl rfl ?_ | refine r_gskip2 rfl rfl rfl ?_ | refine r_gval rfl rfl rfl rfl True.intro ?_
      | refine t_true rfl ?_ | refine t_false rfl ?_
      | ((first | refine t_cond_d rfl (fun _ => ?_) (fun _ => ?_) | refine t_cond_i rfl (fun _ => ?_) (fun _ => ?_) | refine t_cond_j rfl (fun _ => ?_) (fun _ => ?_) | refine t_cond_s rfl (fun _ => ?_) (fun _ => ?_) | refine t_cond_n rfl (fun _ => ?_) (fun _ => ?_) | refine t_cond rfl (fun _ => ?_) (fun _ => ?_) | refine c_split_d rfl rfl (fun _ => ?_) (fun _ => ?_) | refine c_split_i rfl rfl (fun _ => ?_) (fun _ => ?_) | refine c_split_j rfl rfl (fun _ => ?_) (fun _ => ?_) | refine c_split_s rfl rfl (fun _ => ?_) (fun _ => ?_) | refine c_split_n rfl rfl (fun _ => ?_) (fun _ => ?_)) <;> try (first | (rename_i hz; exact Bool.noConfusion (show true = false from hz)) | (rename_i hz; exact Bool.noConfusion (show false = true from hz)) | (exfalso; omega)))
      | refine r_val rfl rfl (by (first | omega | exact Nat.le_of_ble_eq_true rfl | (simp only [wrap_u8, IntKind.wrap_i64, IntKind.wrap_i32, wrap_u32', wrap_u64', InI]; (repeat' refine And.intro ?_ ?_) <;> omega) | ((repeat' refine And.intro ?_ ?_) <;> first | omega | rfl | exact Nat.le_refl _ | exact Nat.le_of_ble_eq_true rfl | exact bytesF_one _) | (simp_all; done) | (simp_all; omega))) ?_ | refine r_gval rfl rfl rfl rfl (by (first | omega | exact Nat.le_of_ble_eq_true rfl | (simp only [wrap_u8, IntKind.wrap_i64, IntKind.wrap_i32, wrap_u32', wrap_u64', InI]; (repeat' refine And.intro ?_ ?_) <;> omega) | ((repeat' refine And.intro ?_ ?_) <;> first | omega | rfl | exact Nat.le_refl _ | exact Nat.le_of_ble_eq_true rfl | exact bytesF_one _) | (simp_all; done) | (simp_all; omega))) ?_
      | refine r_obj rfl rfl (by (first | omega | exact Nat.le_of_ble_eq_true rfl | (simp only [wrap_u8, IntKind.wrap_i64, IntKind.wrap_i32, wrap_u32', wrap_u64', InI]; (repeat' refine And.intro ?_ ?_) <;> omega) | ((repeat' refine And.intro ?_ ?_) <;> first | omega | rfl | exact Nat.le_refl _ | exact Nat.le_of_ble_eq_true rfl | exact bytesF_one _) | (simp_all; done) | (simp_all; omega))) ?_ | refine r_sto rfl (by (first | omega | exact Nat.le_of_ble_eq_true rfl | (simp only [wrap_u8, IntKind.wrap_i64, IntKind.wrap_i32, wrap_u32', wrap_u64', InI]; (repeat' refine And.intro ?_ ?_) <;> omega) | ((repeat' refine And.intro ?_ ?_) <;> first | omega | rfl | exact Nat.le_refl _ | exact Nat.le_of_ble_eq_true rfl | exact bytesF_one _) | (simp_all; done) | (simp_all; omega))) ?_ | refine r_gobj rfl rfl rfl rfl (by (first | omega | exact Nat.le_of_ble_eq_true rfl | (simp only [wrap_u8, IntKind.wrap_i64, IntKind.wrap_i32, wrap_u32', wrap_u64', InI]; (repeat' refine And.intro ?_ ?_) <;> omega) | ((repeat' refine And.intro ?_ ?_) <;> first | omega | rfl | exact Nat.le_refl _ | exact Nat.le_of_ble_eq_true rfl | exact bytesF_one _) | (simp_all; done) | (simp_all; omega))) ?_
      | refine e_hit rfl ?_ | refine e_miss rfl ?_
      | refine ⟨by kernel_rfl, ?_⟩ | refine x_end rfl ?_ | ((with_reducible refine c_grd ?_); (fail_if_success (refine c_lit true rfl rfl rfl ?_)); (fail_if_success (refine c_lit false rfl rfl rfl ?_)); refine c_split rfl rfl (fun _ => ?_) (fun _ => ?_)))
    rw [g4 (), List.take_of_length_le (by omega)]

end Go.Proofs.YteidmimpkipcfaaDoor.Flow

/- DEC: the program's Parse. -/
namespace Go.Proofs.YteidmimpkipcfaaDoor.Flow
open Go

/-- Parse's objects: the text, the result, the place, the first closure. -/
abbrev pOw (s : List UInt8) (i : Int) : Ow := [(5, .var [.i .i64 i]), (6, .var [pF]), (1, .var [.s s]), (2, .var [.b false, .s [], .i .i64 0])]
/-- .. and its second closure. -/
abbrev pG : D := .fn 95 [.pv 5 0, .pv 6 0, .pv 1 0]

theorem is1_ctr (a : UInt8) (n : Int) (hn : (a.toNat : Int) = n) (s : List UInt8) (i : Nat) (hs : s.length ≤ 1048576) (hi : i ≤ s.length) : CtrO Tryd.prog 93 [.s [a], .pv 5 0, .pv 1 0] (pO s i) (.b (decide (sat s i n))) (pO s i) := by
  subst hn
  exact is_ctr [a] (fun c => c = (a.toNat : Int)) (set_1 a) s i hs hi
theorem is2_ctr (a b : UInt8) (n m : Int) (hn : (a.toNat : Int) = n) (hm : (b.toNat : Int) = m) (s : List UInt8) (i : Nat) (hs : s.length ≤ 1048576) (hi : i ≤ s.length) : CtrO Tryd.prog 93 [.s [a, b], .pv 5 0, .pv 1 0] (pO s i) (.b (decide (sat s i n ∨ sat s i m))) (pO s i) := by
  subst hn hm
  have := is_ctr [a, b] (fun c => c = (a.toNat : Int) ∨ c = (b.toNat : Int)) (set_2 a b) s i hs hi
  rwa [show decide (i < s.length ∧ (at' s i = (a.toNat : Int) ∨ at' s i = (b.toNat : Int))) = decide (sat s i (a.toNat : Int) ∨ sat s i (b.toNat : Int)) from decide_eq_decide.2 (by unfold sat; constructor <;> intro h <;> omega)] at this

section
variable {s : List UInt8} {i : Nat}
theorem whN_pos (h : sat s i 48) : whN s i = ([48], i + 1) := if_pos h
theorem whN_neg (h : ¬ sat s i 48) : whN s i = (dgT s i, i + (dgT s i).length) := if_neg h
theorem whN_le (h : i ≤ s.length) : (whN s i).2 ≤ s.length := by
  have := dgT_len s i
  unfold whN
  split
  · rename_i h1
    have := h1.1
    dsimp only
    omega
  · dsimp only
    omega
theorem frN_pos (h : sat s i 46) (h2 : ¬ dgT s (i + 1) = []) : frN s i = (dgT s (i + 1), i + 1 + (dgT s (i + 1)).length) := if_pos ⟨h, h2⟩
theorem frN_neg (h : ¬ sat s i 46 ∨ dgT s (i + 1) = []) : frN s i = ([], i) := if_neg fun h2 => by
  rcases h with h | h
  · exact h h2.1
  · exact h2.2 h
theorem frN_le (h : i ≤ s.length) : (frN s i).2 ≤ s.length := by
  have := dgT_len s (i + 1)
  unfold frN
  split
  · rename_i h1
    have := h1.1.1
    dsimp only
    omega
  · exact h
theorem sgN_le (h : i ≤ s.length) : sgN s i ≤ s.length := by
  unfold sgN
  split
  · rename_i h1
    rcases h1 with h1 | h1
    · exact h1.1
    · exact h1.1
  · exact h
theorem exN_neg {pw : List UInt8 → Int} (h : ¬ (sat s i 101 ∨ sat s i 69) ∨ dgT s (sgN s (i + 1)) = []) : exN pw s i = (0, i) := if_neg fun h2 => by
  rcases h with h | h
  · exact h h2.1
  · exact h2.2 h
theorem exN_pos {pw : List UInt8 → Int} (h : sat s i 101 ∨ sat s i 69) (h2 : ¬ dgT s (sgN s (i + 1)) = []) : exN pw s i = (if sat s (i + 1) 45 then -pw (dgT s (sgN s (i + 1))) else pw (dgT s (sgN s (i + 1))), sgN s (i + 1) + (dgT s (sgN s (i + 1))).length) := if_pos ⟨h, h2⟩
theorem sg0_le : sg0 s ≤ s.length := by
  unfold sg0
  split
  · rename_i h
    exact h.1
  · exact Nat.zero_le _
end

set_option maxHeartbeats 4000000 in
theorem parse_ctr (s : List UInt8) (hs : s.length ≤ 1048576) : Ctr Tryd.prog 53 [.s s] (.tu [dcV (parseG powP s).1, .i .i64 (parseG powP s).2.1, .i .i64 (parseG powP s).2.2]) := by
  generalize hR : parseG powP s = R
  unfold parseG at hR
  replace hR := fun _ : Unit => hR.symm
  refine r_fun Tryd.func53 rfl Tryd.ntmps53 Tryd.results53 rfl rfl fun X hL hX => ?_
  have c1 := is1_ctr 45 45 rfl s 0 hs (Nat.zero_le _)
  have e5 : sat s 0 45 → (0 : Int) + 1 = (sg0 s : Int) := fun h => by unfold sg0; rw [if_pos h]; rfl
  have e5' : ¬ sat s 0 45 → (0 : Int) = (sg0 s : Int) := fun h => by unfold sg0; rw [if_neg h]; rfl
  repeat' (first
    | refine r_mid 5 hL (fun _ : Unit => [(2, .pv 2 0), (5, .pv 5 0), (6, .pv 6 0), (7, pG), (8, .b (decide (sat s 0 45)))]) (fun _ => pOw s (sg0 s)) (fun _ => True) ?_ ?_
    | with_reducible refine t_seq ?_ | with_reducible refine t_region ?_ | with_reducible refine c_nil ?_ | with_reducible refine n_then ?_
    | with_reducible refine t_ret ?_ | with_reducible refine t_skip ?_ | with_reducible refine t_exit ?_ | with_reducible refine t_block ?_
    | with_reducible refine n_block ?_ | with_reducible refine e_then ?_ | with_reducible refine x_then ?_ | with_reducible refine x_block ?_ | with_reducible refine t_draw ?_
    | refine r_val rfl rfl True.intro ?_ | refine r_gskip rfl rfl rfl ?_ | refine r_gskip2 rfl rfl rfl ?_ | refine r_gval rfl rfl rfl rfl True.intro ?_
    | refine t_true rfl ?_ | refine t_false rfl ?_
    | ((first | refine t_cond_d rfl (fun _ => ?_) (fun _ => ?_) | refine t_cond_i rfl (fun _ => ?_) (fun _ => ?_) | refine t_cond_j rfl (fun _ => ?_) (fun _ => ?_) | refine t_cond_s rfl (fun _ => ?_) (fun _ => ?_) | refine t_cond_n rfl (fun _ => ?_) (fun _ => ?_) | refine t_cond rfl (fun _ => ?_) (fun _ => ?_) | refine c_split_d rfl rfl (fun _ => ?_) (fun _ => ?_) | refine c_split_i rfl rfl (fun _ => ?_) (fun _ => ?_) | refine c_split_j rfl rfl (fun _ => ?_) (fun _ => ?_) | refine c_split_s rfl rfl (fun _ => ?_) (fun _ => ?_) | refine c_split_n rfl rfl (fun _ => ?_) (fun _ => ?_)) <;> try (first | contradiction | (exfalso; omega)))
    | refine r_val rfl rfl (by (first | omega | exact Nat.le_of_ble_eq_true rfl | (simp only [wrap_u8, IntKind.wrap_i64, IntKind.wrap_i32, wrap_u32', wrap_u64', InI]; (repeat' refine And.intro ?_ ?_) <;> omega) | ((repeat' refine And.intro ?_ ?_) <;> first | omega | rfl | exact Nat.le_refl _ | exact Nat.le_of_ble_eq_true rfl | exact bytesF_one _) | (simp_all; done) | (simp_all; omega))) ?_ | refine r_gval rfl rfl rfl rfl (by (first | omega | exact Nat.le_of_ble_eq_true rfl | (simp only [wrap_u8, IntKind.wrap_i64, IntKind.wrap_i32, wrap_u32', wrap_u64', InI]; (repeat' refine And.intro ?_ ?_) <;> omega) | ((repeat' refine And.intro ?_ ?_) <;> first | omega | rfl | exact Nat.le_refl _ | exact Nat.le_of_ble_eq_true rfl | exact bytesF_one _) | (simp_all; done) | (simp_all; omega))) ?_
    | refine r_obj rfl rfl (by (first | omega | exact Nat.le_of_ble_eq_true rfl | (simp only [wrap_u8, IntKind.wrap_i64, IntKind.wrap_i32, wrap_u32', wrap_u64', InI]; (repeat' refine And.intro ?_ ?_) <;> omega) | ((repeat' refine And.intro ?_ ?_) <;> first | omega | rfl | exact Nat.le_refl _ | exact Nat.le_of_ble_eq_true rfl | exact bytesF_one _) | (simp_all; done) | (simp_all; omega))) ?_ | refine r_sto rfl (by (first | omega | exact Nat.le_of_ble_eq_true rfl | (simp only [wrap_u8, IntKind.wrap_i64, IntKind.wrap_i32, wrap_u32', wrap_u64', InI]; (repeat' refine And.intro ?_ ?_) <;> omega) | ((repeat' refine And.intro ?_ ?_) <;> first | omega | rfl | exact Nat.le_refl _ | exact Nat.le_of_ble_eq_true rfl | exact bytesF_one _) | (simp_all; done) | (simp_all; omega))) ?_ | refine r_gobj rfl rfl rfl rfl (by (first | omega | exact Nat.le_of_ble_eq_true rfl | (simp only [wrap_u8, IntKind.wrap_i64, IntKind.wrap_i32, wrap_u32', wrap_u64', InI]; (repeat' refine And.intro ?_ ?_) <;> omega) | ((repeat' refine And.intro ?_ ?_) <;> first | omega | rfl | exact Nat.le_refl _ | exact Nat.le_of_ble_eq_true rfl | exact bytesF_one _) | (simp_all; done) | (simp_all; omega))) ?_
    | refine e_hit rfl ?_ | refine e_miss rfl ?_
    | refine ⟨by kernel_rfl, ?_⟩ | refine r_lend2 (f := 93) 5 1 rfl rfl Tryd.call93 rfl rfl rfl rfl rfl rfl rfl rfl rfl c1 ?_ | ((with_reducible refine c_grd ?_); (fail_if_success (refine c_lit true rfl rfl rfl ?_)); (fail_if_success (refine c_lit false rfl rfl rfl ?_)); refine c_split rfl rfl (fun _ => ?_) (fun _ => ?_)))
  · exact ⟨(), trivial, ⟨rfl, rfl, rfl, rfl, rfl, trivial⟩, ⟨congrArg (fun x => some (Own.var [.i .i64 x])) (e5 ‹_›), rfl, rfl, rfl, trivial⟩, rfl, by rw [hX]; intro k hk; cases hk⟩
  · exact ⟨(), trivial, ⟨rfl, rfl, rfl, rfl, rfl, trivial⟩, ⟨congrArg (fun x => some (Own.var [.i .i64 x])) (e5' ‹_›), rfl, rfl, rfl, trivial⟩, rfl, by rw [hX]; intro k hk; cases hk⟩
  clear c1 e5 e5'
  intro _ _
  have hi := sg0_le (s := s)
  generalize sg0 s = i at hR hi ⊢
  have c1 := is1_ctr 48 48 rfl s i hs hi
  have c2 := digits_ctr s i hs hi
  have L1 := fun h => whN_pos (s := s) (i := i) h
  have L2 := fun h => whN_neg (s := s) (i := i) h
  repeat' (first
    | refine r_mid 8 hL (fun _ : Unit => [(2, .pv 2 0), (5, .pv 5 0), (6, .pv 6 0), (7, pG), (8, .b (decide (sat s 0 45))), (9, .s (whN s i).1)]) (fun _ => pOw s (whN s i).2) (fun _ => ¬ (whN s i).1 = []) ?_ ?_
    | with_reducible refine t_seq ?_ | with_reducible refine t_region ?_ | with_reducible refine c_nil ?_ | with_reducible refine n_then ?_
    | with_reducible refine t_ret ?_ | with_reducible refine t_skip ?_ | with_reducible refine t_exit ?_ | with_reducible refine t_block ?_
    | with_reducible refine n_block ?_ | with_reducible refine e_then ?_ | with_reducible refine x_then ?_ | with_reducible refine x_block ?_ | with_reducible refine t_draw ?_
    | refine r_val rfl rfl True.intro ?_ | refine r_gskip rfl rfl rfl ?_ | refine r_gskip2 rfl rfl rfl ?_ | refine r_gval rfl rfl rfl rfl True.intro ?_
    | refine t_true rfl ?_ | refine t_false rfl ?_
    | ((first | refine t_cond_d rfl (fun _ => ?_) (fun _ => ?_) | refine t_cond_i rfl (fun _ => ?_) (fun _ => ?_) | refine t_cond_j rfl (fun _ => ?_) (fun _ => ?_) | refine t_cond_s rfl (fun _ => ?_) (fun _ => ?_) | refine t_cond_n rfl (fun _ => ?_) (fun _ => ?_) | refine t_cond rfl (fun _ => ?_) (fun _ => ?_) | refine c_split_d rfl rfl (fun _ => ?_) (fun _ => ?_) | refine c_split_i rfl rfl (fun _ => ?_) (fun _ => ?_) | refine c_split_j rfl rfl (fun _ => ?_) (fun _ => ?_) | refine c_split_s rfl rfl (fun _ => ?_) (fun _ => ?_) | refine c_split_n rfl rfl (fun _ => ?_) (fun _ => ?_)) <;> try (first | contradiction | (exfalso; omega)))
    | refine r_val rfl rfl (by (first | omega | exact Nat.le_of_ble_eq_true rfl | (simp only [wrap_u8, IntKind.wrap_i64, IntKind.wrap_i32, wrap_u32', wrap_u64', InI]; (repeat' refine And.intro ?_ ?_) <;> omega) | ((repeat' refine And.intro ?_ ?_) <;> first | omega | rfl | exact Nat.le_refl _ | exact Nat.le_of_ble_eq_true rfl | exact bytesF_one _) | (simp_all; done) | (simp_all; omega))) ?_ | refine r_gval rfl rfl rfl rfl (by (first | omega | exact Nat.le_of_ble_eq_true rfl | (simp only [wrap_u8, IntKind.wrap_i64, IntKind.wrap_i32, wrap_u32', wrap_u64', InI]; (repeat' refine And.intro ?_ ?_) <;> omega) | ((repeat' refine And.intro ?_ ?_) <;> first | omega | rfl | exact Nat.le_refl _ | exact Nat.le_of_ble_eq_true rfl | exact bytesF_one _) | (simp_all; done) | (simp_all; omega))) ?_
    | refine r_obj rfl rfl (by (first | omega | exact Nat.le_of_ble_eq_true rfl | (simp only [wrap_u8, IntKind.wrap_i64, IntKind.wrap_i32, wrap_u32', wrap_u64', InI]; (repeat' refine And.intro ?_ ?_) <;> omega) | ((repeat' refine And.intro ?_ ?_) <;> first | omega | rfl | exact Nat.le_refl _ | exact Nat.le_of_ble_eq_true rfl | exact bytesF_one _) | (simp_all; done) | (simp_all; omega))) ?_ | refine r_sto rfl (by (first | omega | exact Nat.le_of_ble_eq_true rfl | (simp only [wrap_u8, IntKind.wrap_i64, IntKind.wrap_i32, wrap_u32', wrap_u64', InI]; (repeat' refine And.intro ?_ ?_) <;> omega) | ((repeat' refine And.intro ?_ ?_) <;> first | omega | rfl | exact Nat.le_refl _ | exact Nat.le_of_ble_eq_true rfl | exact bytesF_one _) | (simp_all; done) | (simp_all; omega))) ?_ | refine r_gobj rfl rfl rfl rfl (by (first | omega | exact Nat.le_of_ble_eq_true rfl | (simp only [wrap_u8, IntKind.wrap_i64, IntKind.wrap_i32, wrap_u32', wrap_u64', InI]; (repeat' refine And.intro ?_ ?_) <;> omega) | ((repeat' refine And.intro ?_ ?_) <;> first | omega | rfl | exact Nat.le_refl _ | exact Nat.le_of_ble_eq_true rfl | exact bytesF_one _) | (simp_all; done) | (simp_all; omega))) ?_
    | refine e_hit rfl ?_ | refine e_miss rfl ?_
    | refine ⟨by kernel_rfl, ?_⟩ | refine x_end rfl ?_ | refine r_lend2 (f := 93) 5 1 rfl rfl Tryd.call93 rfl rfl rfl rfl rfl rfl rfl rfl rfl c1 ?_ | refine r_lend3 (f := 95) 5 6 1 rfl rfl Tryd.call95 rfl rfl rfl rfl rfl rfl rfl rfl rfl rfl rfl rfl c2 ?_ | ((with_reducible refine c_grd ?_); (fail_if_success (refine c_lit true rfl rfl rfl ?_)); (fail_if_success (refine c_lit false rfl rfl rfl ?_)); refine c_split rfl rfl (fun _ => ?_) (fun _ => ?_)))
  · rw [L1 ‹_›]
    exact ⟨(), by simp, ⟨rfl, rfl, rfl, rfl, rfl, rfl, trivial⟩, ⟨rfl, rfl, rfl, rfl, trivial⟩, rfl, by rw [hX]; intro k hk; cases hk⟩
  · rename_i h1 h2
    rw [hR (), if_pos (by rw [L2 h1]; exact h2)]
    rfl
  · rename_i h1 h2
    rw [L2 h1]
    exact ⟨(), h2, ⟨rfl, rfl, rfl, rfl, rfl, rfl, trivial⟩, ⟨rfl, rfl, rfl, rfl, trivial⟩, rfl, by rw [hX]; intro k hk; cases hk⟩
  clear c1 c2 L1 L2
  intro _ hw
  replace hR := fun _ : Unit => (hR ()).trans (if_neg hw)
  dsimp only at hR
  have hj := whN_le hi
  have lw : (whN s i).1.length ≤ 1048577 := by
    have := dgT_len s i
    unfold whN
    split <;> dsimp only [List.length_cons, List.length_nil] <;> omega
  generalize whN s i = W at hR hw hj lw ⊢
  obtain ⟨w, j⟩ := W
  dsimp only at hR hw hj lw ⊢
  clear hi hw i
  have c1 := is1_ctr 46 46 rfl s j hs hj
  have c2 := fun h : sat s j 46 => digits_ctr s (j + 1) hs h.1
  have L1 := fun h h2 => frN_pos (s := s) (i := j) h h2
  have L2 := fun h => frN_neg (s := s) (i := j) h
  repeat' (first
    | refine r_mid 15 hL (fun _ : Unit => [(2, .pv 2 0), (5, .pv 5 0), (6, .pv 6 0), (7, pG), (8, .b (decide (sat s 0 45))), (9, .s w), (10, .s (frN s j).1)]) (fun _ => pOw s (frN s j).2) (fun _ => True) ?_ ?_
    | with_reducible refine t_seq ?_ | with_reducible refine t_region ?_ | with_reducible refine c_nil ?_ | with_reducible refine n_then ?_
    | with_reducible refine t_ret ?_ | with_reducible refine t_skip ?_ | with_reducible refine t_exit ?_ | with_reducible refine t_block ?_
    | with_reducible refine n_block ?_ | with_reducible refine e_then ?_ | with_reducible refine x_then ?_ | with_reducible refine x_block ?_ | with_reducible refine t_draw ?_
    | refine r_val rfl rfl True.intro ?_ | refine r_gskip rfl rfl rfl ?_ | refine r_gskip2 rfl rfl rfl ?_ | refine r_gval rfl rfl rfl rfl True.intro ?_
    | refine t_true rfl ?_ | refine t_false rfl ?_
    | ((first | refine t_cond_d rfl (fun _ => ?_) (fun _ => ?_) | refine t_cond_i rfl (fun _ => ?_) (fun _ => ?_) | refine t_cond_j rfl (fun _ => ?_) (fun _ => ?_) | refine t_cond_s rfl (fun _ => ?_) (fun _ => ?_) | refine t_cond_n rfl (fun _ => ?_) (fun _ => ?_) | refine t_cond rfl (fun _ => ?_) (fun _ => ?_) | refine c_split_d rfl rfl (fun _ => ?_) (fun _ => ?_) | refine c_split_i rfl rfl (fun _ => ?_) (fun _ => ?_) | refine c_split_j rfl rfl (fun _ => ?_) (fun _ => ?_) | refine c_split_s rfl rfl (fun _ => ?_) (fun _ => ?_) | refine c_split_n rfl rfl (fun _ => ?_) (fun _ => ?_)) <;> try (first | contradiction | (exfalso; omega)))
    | refine r_val rfl rfl (by (first | omega | exact Nat.le_of_ble_eq_true rfl | (simp only [wrap_u8, IntKind.wrap_i64, IntKind.wrap_i32, wrap_u32', wrap_u64', InI]; (repeat' refine And.intro ?_ ?_) <;> omega) | ((repeat' refine And.intro ?_ ?_) <;> first | omega | rfl | exact Nat.le_refl _ | exact Nat.le_of_ble_eq_true rfl | exact bytesF_one _) | (simp_all; done) | (simp_all; omega))) ?_ | refine r_gval rfl rfl rfl rfl (by (first | omega | exact Nat.le_of_ble_eq_true rfl | (simp only [wrap_u8, IntKind.wrap_i64, IntKind.wrap_i32, wrap_u32', wrap_u64', InI]; (repeat' refine And.intro ?_ ?_) <;> omega) | ((repeat' refine And.intro ?_ ?_) <;> first | omega | rfl | exact Nat.le_refl _ | exact Nat.le_of_ble_eq_true rfl | exact bytesF_one _) | (simp_all; done) | (simp_all; omega))) ?_
    | refine r_obj rfl rfl (by (first | omega | exact Nat.le_of_ble_eq_true rfl | (simp only [wrap_u8, IntKind.wrap_i64, IntKind.wrap_i32, wrap_u32', wrap_u64', InI]; (repeat' refine And.intro ?_ ?_) <;> omega) | ((repeat' refine And.intro ?_ ?_) <;> first | omega | rfl | exact Nat.le_refl _ | exact Nat.le_of_ble_eq_true rfl | exact bytesF_one _) | (simp_all; done) | (simp_all; omega))) ?_ | refine r_sto rfl (by (first | omega | exact Nat.le_of_ble_eq_true rfl | (simp only [wrap_u8, IntKind.wrap_i64, IntKind.wrap_i32, wrap_u32', wrap_u64', InI]; (repeat' refine And.intro ?_ ?_) <;> omega) | ((repeat' refine And.intro ?_ ?_) <;> first | omega | rfl | exact Nat.le_refl _ | exact Nat.le_of_ble_eq_true rfl | exact bytesF_one _) | (simp_all; done) | (simp_all; omega))) ?_ | refine r_gobj rfl rfl rfl rfl (by (first | omega | exact Nat.le_of_ble_eq_true rfl | (simp only [wrap_u8, IntKind.wrap_i64, IntKind.wrap_i32, wrap_u32', wrap_u64', InI]; (repeat' refine And.intro ?_ ?_) <;> omega) | ((repeat' refine And.intro ?_ ?_) <;> first | omega | rfl | exact Nat.le_refl _ | exact Nat.le_of_ble_eq_true rfl | exact bytesF_one _) | (simp_all; done) | (simp_all; omega))) ?_
    | refine e_hit rfl ?_ | refine e_miss rfl ?_
    | refine ⟨by kernel_rfl, ?_⟩ | refine r_lend2 (f := 93) 5 1 rfl rfl Tryd.call93 rfl rfl rfl rfl rfl rfl rfl rfl rfl c1 ?_ | refine r_lend3 (f := 95) 5 6 1 rfl rfl Tryd.call95 rfl rfl rfl rfl rfl rfl rfl rfl rfl rfl rfl rfl (c2 ‹_›) ?_ | ((with_reducible refine c_grd ?_); (fail_if_success (refine c_lit true rfl rfl rfl ?_)); (fail_if_success (refine c_lit false rfl rfl rfl ?_)); refine c_split rfl rfl (fun _ => ?_) (fun _ => ?_)))
  · rename_i h1 h2
    rw [L2 (.inr h2)]
    exact ⟨(), trivial, ⟨rfl, rfl, rfl, rfl, rfl, rfl, congrArg D.s h2, trivial⟩, ⟨rfl, rfl, rfl, rfl, trivial⟩, rfl, by rw [hX]; intro k hk; cases hk⟩
  · rename_i h1 h2
    rw [L1 h1 h2]
    exact ⟨(), trivial, ⟨rfl, rfl, rfl, rfl, rfl, rfl, rfl, trivial⟩, ⟨rfl, rfl, rfl, rfl, trivial⟩, rfl, by rw [hX]; intro k hk; cases hk⟩
  · rename_i h1
    rw [L2 (.inl h1)]
    exact ⟨(), trivial, ⟨rfl, rfl, rfl, rfl, rfl, rfl, rfl, trivial⟩, ⟨rfl, rfl, rfl, rfl, trivial⟩, rfl, by rw [hX]; intro k hk; cases hk⟩
  clear c1 c2 L1 L2
  intro _ _
  have hk := frN_le hj
  have lf : (frN s j).1.length ≤ 1048577 := by
    have := dgT_len s (j + 1)
    unfold frN
    split <;> dsimp only [List.length_cons, List.length_nil] <;> omega
  generalize frN s j = W at hR hk lf ⊢
  obtain ⟨f, k⟩ := W
  dsimp only at hR hk lf ⊢
  have c1 := is2_ctr 101 69 101 69 rfl rfl s k hs hk
  have c2 := fun h : k + 1 ≤ s.length => is1_ctr 45 45 rfl s (k + 1) hs h
  have c3 := fun h : k + 1 ≤ s.length => is2_ctr 43 45 43 45 rfl rfl s (k + 1) hs h
  have c4a := fun (h : k + 1 ≤ s.length) (h2 : sat s (k + 1) 43 ∨ sat s (k + 1) 45) => digits_ctr s (k + 1 + 1) hs (by rcases h2 with h2 | h2; exact h2.1; exact h2.1)
  have c4b := fun (h : k + 1 ≤ s.length) (_ : ¬ (sat s (k + 1) 43 ∨ sat s (k + 1) 45)) => digits_ctr s (k + 1) hs h
  have c5 := fun p => power_ctr (dgT s p) (dgT_digit _ _) (by have := dgT_len s p; omega)
  have hp := fun p => (⟨(pow_eq (dgT s p) (dgT_digit _ _)).1, powP_le (dgT s p) 0 (by omega)⟩ : 0 ≤ powP (dgT s p) ∧ powP (dgT s p) ≤ 1099511627776)
  have hp1 := hp (k + 1)
  have hp2 := hp (k + 1 + 1)
  have hs1 : (sat s k 101 ∨ sat s k 69) → k + 1 ≤ s.length := fun h => by
    rcases h with h | h
    · exact h.1
    · exact h.1
  have g1 : (sat s (k + 1) 43 ∨ sat s (k + 1) 45) → sgN s (k + 1) = k + 1 + 1 := fun h => if_pos h
  have g2 : ¬ (sat s (k + 1) 43 ∨ sat s (k + 1) 45) → sgN s (k + 1) = k + 1 := fun h => if_neg h
  have L1 : ∀ p, sgN s (k + 1) = p → (sat s k 101 ∨ sat s k 69) → ¬ dgT s p = [] → exN powP s k = (if sat s (k + 1) 45 then -powP (dgT s p) else powP (dgT s p), p + (dgT s p).length) := fun p hp h h2 => by
    subst hp
    exact exN_pos h h2
  have L2 : ∀ p, sgN s (k + 1) = p → dgT s p = [] → exN powP s k = (0, k) := fun p hp h => by
    subst hp
    exact exN_neg (.inr h)
  have L3 := fun h => exN_neg (s := s) (i := k) (pw := powP) (.inl h)
  repeat' (first
    | refine r_mid 22 hL (fun _ : Unit => [(2, .pv 2 0), (5, .pv 5 0), (8, .b (decide (sat s 0 45))), (9, .s w), (10, .s f), (12, .i .i64 (exN powP s k).1)]) (fun _ => pOw s (exN powP s k).2) (fun _ => True) ?_ ?_
    | with_reducible refine t_seq ?_ | with_reducible refine t_region ?_ | with_reducible refine c_nil ?_ | with_reducible refine n_then ?_
    | with_reducible refine t_ret ?_ | with_reducible refine t_skip ?_ | with_reducible refine t_exit ?_ | with_reducible refine t_block ?_
    | with_reducible refine n_block ?_ | with_reducible refine e_then ?_ | with_reducible refine x_then ?_ | with_reducible refine x_block ?_ | with_reducible refine t_draw ?_
    | refine r_val rfl rfl True.intro ?_ | refine r_gskip rfl rfl rfl ?_ | refine r_gskip2 rfl rfl rfl ?_ | refine r_gval rfl rfl rfl rfl True.intro ?_
    | refine t_true rfl ?_ | refine t_false rfl ?_
    | ((first | refine t_cond_d rfl (fun _ => ?_) (fun _ => ?_) | refine t_cond_i rfl (fun _ => ?_) (fun _ => ?_) | refine t_cond_j rfl (fun _ => ?_) (fun _ => ?_) | refine t_cond_s rfl (fun _ => ?_) (fun _ => ?_) | refine t_cond_n rfl (fun _ => ?_) (fun _ => ?_) | refine t_cond rfl (fun _ => ?_) (fun _ => ?_) | refine c_split_d rfl rfl (fun _ => ?_) (fun _ => ?_) | refine c_split_i rfl rfl (fun _ => ?_) (fun _ => ?_) | refine c_split_j rfl rfl (fun _ => ?_) (fun _ => ?_) | refine c_split_s rfl rfl (fun _ => ?_) (fun _ => ?_) | refine c_split_n rfl rfl (fun _ => ?_) (fun _ => ?_)) <;> try (first | contradiction | (exfalso; omega)))
    | refine r_val rfl rfl (by (first | omega | exact Nat.le_of_ble_eq_true rfl | (simp only [wrap_u8, IntKind.wrap_i64, IntKind.wrap_i32, wrap_u32', wrap_u64', InI]; (repeat' refine And.intro ?_ ?_) <;> omega) | ((repeat' refine And.intro ?_ ?_) <;> first | omega | rfl | exact Nat.le_refl _ | exact Nat.le_of_ble_eq_true rfl | exact bytesF_one _) | (simp_all; done) | (simp_all; omega))) ?_ | refine r_gval rfl rfl rfl rfl (by (first | omega | exact Nat.le_of_ble_eq_true rfl | (simp only [wrap_u8, IntKind.wrap_i64, IntKind.wrap_i32, wrap_u32', wrap_u64', InI]; (repeat' refine And.intro ?_ ?_) <;> omega) | ((repeat' refine And.intro ?_ ?_) <;> first | omega | rfl | exact Nat.le_refl _ | exact Nat.le_of_ble_eq_true rfl | exact bytesF_one _) | (simp_all; done) | (simp_all; omega))) ?_
    | refine r_obj rfl rfl (by (first | omega | exact Nat.le_of_ble_eq_true rfl | (simp only [wrap_u8, IntKind.wrap_i64, IntKind.wrap_i32, wrap_u32', wrap_u64', InI]; (repeat' refine And.intro ?_ ?_) <;> omega) | ((repeat' refine And.intro ?_ ?_) <;> first | omega | rfl | exact Nat.le_refl _ | exact Nat.le_of_ble_eq_true rfl | exact bytesF_one _) | (simp_all; done) | (simp_all; omega))) ?_ | refine r_sto rfl (by (first | omega | exact Nat.le_of_ble_eq_true rfl | (simp only [wrap_u8, IntKind.wrap_i64, IntKind.wrap_i32, wrap_u32', wrap_u64', InI]; (repeat' refine And.intro ?_ ?_) <;> omega) | ((repeat' refine And.intro ?_ ?_) <;> first | omega | rfl | exact Nat.le_refl _ | exact Nat.le_of_ble_eq_true rfl | exact bytesF_one _) | (simp_all; done) | (simp_all; omega))) ?_ | refine r_gobj rfl rfl rfl rfl (by (first | omega | exact Nat.le_of_ble_eq_true rfl | (simp only [wrap_u8, IntKind.wrap_i64, IntKind.wrap_i32, wrap_u32', wrap_u64', InI]; (repeat' refine And.intro ?_ ?_) <;> omega) | ((repeat' refine And.intro ?_ ?_) <;> first | omega | rfl | exact Nat.le_refl _ | exact Nat.le_of_ble_eq_true rfl | exact bytesF_one _) | (simp_all; done) | (simp_all; omega))) ?_
    | refine e_hit rfl ?_ | refine e_miss rfl ?_
    | refine ⟨by kernel_rfl, ?_⟩ | refine r_lend2 (f := 93) 5 1 rfl rfl Tryd.call93 rfl rfl rfl rfl rfl rfl rfl rfl rfl c1 ?_ | refine r_lend2 (f := 93) 5 1 rfl rfl Tryd.call93 rfl rfl rfl rfl rfl rfl rfl rfl rfl (c2 (hs1 ‹_›)) ?_ | refine r_lend2 (f := 93) 5 1 rfl rfl Tryd.call93 rfl rfl rfl rfl rfl rfl rfl rfl rfl (c3 (hs1 ‹_›)) ?_ | refine r_lend3 (f := 95) 5 6 1 rfl rfl Tryd.call95 rfl rfl rfl rfl rfl rfl rfl rfl rfl rfl rfl rfl (c4a (hs1 ‹_›) ‹_›) ?_ | refine r_lend3 (f := 95) 5 6 1 rfl rfl Tryd.call95 rfl rfl rfl rfl rfl rfl rfl rfl rfl rfl rfl rfl (c4b (hs1 ‹_›) ‹_›) ?_ | refine r_call (f := 96) rfl rfl Tryd.call96 rfl (c5 _) ?_ | ((with_reducible refine c_grd ?_); (fail_if_success (refine c_lit true rfl rfl rfl ?_)); (fail_if_success (refine c_lit false rfl rfl rfl ?_)); refine c_split rfl rfl (fun _ => ?_) (fun _ => ?_)))
  · rename_i h1 h2 h3
    rw [L2 _ (g1 h2) h3]
    exact ⟨(), trivial, ⟨rfl, rfl, rfl, rfl, rfl, rfl, trivial⟩, ⟨rfl, rfl, rfl, rfl, trivial⟩, rfl, by rw [hX]; intro k hk; cases hk⟩
  · rename_i h1 h2 h3 h4
    rw [L1 _ (g1 h2) h1 h3, if_pos h4]
    exact ⟨(), trivial, ⟨rfl, rfl, rfl, rfl, rfl, rfl, trivial⟩, ⟨rfl, rfl, rfl, rfl, trivial⟩, rfl, by rw [hX]; intro k hk; cases hk⟩
  · rename_i h1 h2 h3 h4
    rw [L1 _ (g1 h2) h1 h3, if_neg h4]
    exact ⟨(), trivial, ⟨rfl, rfl, rfl, rfl, rfl, rfl, trivial⟩, ⟨rfl, rfl, rfl, rfl, trivial⟩, rfl, by rw [hX]; intro k hk; cases hk⟩
  · rename_i h1 h2 h3
    rw [L2 _ (g2 h2) h3]
    exact ⟨(), trivial, ⟨rfl, rfl, rfl, rfl, rfl, rfl, trivial⟩, ⟨rfl, rfl, rfl, rfl, trivial⟩, rfl, by rw [hX]; intro k hk; cases hk⟩
  · rename_i h1 h2 h3 h4
    exact absurd (.inr h4) h2
  · rename_i h1 h2 h3 h4
    rw [L1 _ (g2 h2) h1 h3, if_neg h4]
    exact ⟨(), trivial, ⟨rfl, rfl, rfl, rfl, rfl, rfl, trivial⟩, ⟨rfl, rfl, rfl, rfl, trivial⟩, rfl, by rw [hX]; intro k hk; cases hk⟩
  · rename_i h1
    rw [L3 h1]
    exact ⟨(), trivial, ⟨rfl, rfl, rfl, rfl, rfl, rfl, trivial⟩, ⟨rfl, rfl, rfl, rfl, trivial⟩, rfl, by rw [hX]; intro k hk; cases hk⟩
  clear c1 c2 c3 c4a c4b g1 g2 L1 L2 L3 hs1 hp1 hp2
  intro _ _
  have hx : -1099511627776 ≤ (exN powP s k).1 ∧ (exN powP s k).1 ≤ 1099511627776 := by
    have := hp (sgN s (k + 1))
    unfold exN
    split
    · dsimp only
      split <;> omega
    · dsimp only
      omega
  clear hp c5
  generalize exN powP s k = W at hR hx ⊢
  obtain ⟨x, m⟩ := W
  dsimp only at hR hx ⊢
  have c1 := norm_ctr (decide (sat s 0 45)) (w ++ f) (x - f.length) (by rw [List.length_append]; omega) (by omega) (by omega)
  generalize normF (decide (sat s 0 45)) (w ++ f) (x - f.length) = W at hR c1
  obtain ⟨⟨n1, d1, e1⟩, err⟩ := W
  dsimp only at hR c1
  repeat' (first
    | with_reducible refine t_seq ?_ | with_reducible refine t_region ?_ | with_reducible refine c_nil ?_ | with_reducible refine n_then ?_
    | with_reducible refine t_ret ?_ | with_reducible refine t_skip ?_ | with_reducible refine t_exit ?_ | with_reducible refine t_block ?_
    | with_reducible refine n_block ?_ | with_reducible refine e_then ?_ | with_reducible refine x_then ?_ | with_reducible refine x_block ?_ | with_reducible refine t_draw ?_
    | refine r_val rfl rfl True.intro ?_ | refine r_gskip rfl rfl rfl ?_ | refine r_gskip2 rfl rfl rfl ?_ | refine r_gval rfl rfl rfl rfl True.intro ?_
    | refine t_true rfl ?_ | refine t_false rfl ?_
    | ((first | refine t_cond_d rfl (fun _ => ?_) (fun _ => ?_) | refine t_cond_i rfl (fun _ => ?_) (fun _ => ?_) | refine t_cond_j rfl (fun _ => ?_) (fun _ => ?_) | refine t_cond_s rfl (fun _ => ?_) (fun _ => ?_) | refine t_cond_n rfl (fun _ => ?_) (fun _ => ?_) | refine t_cond rfl (fun _ => ?_) (fun _ => ?_) | refine c_split_d rfl rfl (fun _ => ?_) (fun _ => ?_) | refine c_split_i rfl rfl (fun _ => ?_) (fun _ => ?_) | refine c_split_j rfl rfl (fun _ => ?_) (fun _ => ?_) | refine c_split_s rfl rfl (fun _ => ?_) (fun _ => ?_) | refine c_split_n rfl rfl (fun _ => ?_) (fun _ => ?_)) <;> try (first | (rename_i hz; exact Bool.noConfusion (show true = false from hz)) | (rename_i hz; exact Bool.noConfusion (show false = true from hz)) | (exfalso; omega)))
    | refine r_val rfl rfl (by (first | (rw [List.length_append]; omega) | omega | exact Nat.le_of_ble_eq_true rfl | (simp only [wrap_u8, IntKind.wrap_i64, IntKind.wrap_i32, wrap_u32', wrap_u64', InI]; (repeat' refine And.intro ?_ ?_) <;> omega) | ((repeat' refine And.intro ?_ ?_) <;> first | omega | rfl | exact Nat.le_refl _ | exact Nat.le_of_ble_eq_true rfl | exact bytesF_one _) | (simp_all; done) | (simp_all; omega))) ?_ | refine r_gval rfl rfl rfl rfl (by (first | (rw [List.length_append]; omega) | omega | exact Nat.le_of_ble_eq_true rfl | (simp only [wrap_u8, IntKind.wrap_i64, IntKind.wrap_i32, wrap_u32', wrap_u64', InI]; (repeat' refine And.intro ?_ ?_) <;> omega) | ((repeat' refine And.intro ?_ ?_) <;> first | omega | rfl | exact Nat.le_refl _ | exact Nat.le_of_ble_eq_true rfl | exact bytesF_one _) | (simp_all; done) | (simp_all; omega))) ?_
    | refine r_obj rfl rfl (by (first | (rw [List.length_append]; omega) | omega | exact Nat.le_of_ble_eq_true rfl | (simp only [wrap_u8, IntKind.wrap_i64, IntKind.wrap_i32, wrap_u32', wrap_u64', InI]; (repeat' refine And.intro ?_ ?_) <;> omega) | ((repeat' refine And.intro ?_ ?_) <;> first | omega | rfl | exact Nat.le_refl _ | exact Nat.le_of_ble_eq_true rfl | exact bytesF_one _) | (simp_all; done) | (simp_all; omega))) ?_ | refine r_sto rfl (by (first | (rw [List.length_append]; omega) | omega | exact Nat.le_of_ble_eq_true rfl | (simp only [wrap_u8, IntKind.wrap_i64, IntKind.wrap_i32, wrap_u32', wrap_u64', InI]; (repeat' refine And.intro ?_ ?_) <;> omega) | ((repeat' refine And.intro ?_ ?_) <;> first | omega | rfl | exact Nat.le_refl _ | exact Nat.le_of_ble_eq_true rfl | exact bytesF_one _) | (simp_all; done) | (simp_all; omega))) ?_ | refine r_gobj rfl rfl rfl rfl (by (first | (rw [List.length_append]; omega) | omega | exact Nat.le_of_ble_eq_true rfl | (simp only [wrap_u8, IntKind.wrap_i64, IntKind.wrap_i32, wrap_u32', wrap_u64', InI]; (repeat' refine And.intro ?_ ?_) <;> omega) | ((repeat' refine And.intro ?_ ?_) <;> first | omega | rfl | exact Nat.le_refl _ | exact Nat.le_of_ble_eq_true rfl | exact bytesF_one _) | (simp_all; done) | (simp_all; omega))) ?_
    | refine e_hit rfl ?_ | refine e_miss rfl ?_
    | refine ⟨by kernel_rfl, ?_⟩ | refine x_end rfl ?_ | refine r_call (f := 51) rfl rfl Tryd.call51 rfl c1 ?_ | ((with_reducible refine c_grd ?_); (fail_if_success (refine c_lit true rfl rfl rfl ?_)); (fail_if_success (refine c_lit false rfl rfl rfl ?_)); refine c_split rfl rfl (fun _ => ?_) (fun _ => ?_)))
  · rename_i h
    rw [hR (), if_neg h]
    rfl
  · rename_i h
    rw [hR (), if_pos h]
    rfl

end Go.Proofs.YteidmimpkipcfaaDoor.Flow

/- DEC: the reference's Parse. -/
namespace Go.Proofs.YteidmimpkipcfaaDoor.Flow
open Go

theorem dgT_at (s : List UInt8) (i k : Nat) (h : k < (dgT s i).length) : (dgT s i).getD k 0 = s.getD (i + k) 0 := by
  have e : dgT s i = (s.drop i).take (dgT s i).length := (takeWhile_take _).symm
  have hl := dgT_len s i
  rw [e]
  simp only [List.getD_eq_getElem?_getD, List.getElem?_take, h, if_true, List.getElem?_drop]

end Go.Proofs.YteidmimpkipcfaaDoor.Flow

/- TYPED: which value a field is, in plain words. -/
namespace Go.Proofs.YteidmimpkipcfaaDoor.Flow
open Go

/-! ### A decimal that is read is right -/

theorem tL_split (s : List UInt8) : ∃ z, s = zs z ++ tL s := by
  induction s with
  | nil => exact ⟨0, rfl⟩
  | cons c s ih =>
    by_cases hc : c = 48
    · subst hc
      obtain ⟨z, hz⟩ := ih
      have e : tL (48 :: s) = tL s := by simp [tL, Lib.trimLeftB]
      refine ⟨z + 1, ?_⟩
      rw [e, show zs (z + 1) = 48 :: zs z from List.replicate_succ, List.cons_append, ← hz]
    · exact ⟨0, by rw [tL_ne hc]; rfl⟩

theorem tL_first (s : List UInt8) : ∀ c l, tL s = c :: l → ¬ c = 48 := by
  induction s with
  | nil =>
    intro c l h
    have : tL [] = [] := rfl
    rw [this] at h
    cases h
  | cons c s ih =>
    intro d l h
    by_cases hc : c = 48
    · subst hc
      have e : tL (48 :: s) = tL s := by simp [tL, Lib.trimLeftB]
      rw [e] at h
      exact ih d l h
    · rw [tL_ne hc] at h
      rw [← (List.cons.inj h).1]
      exact hc

theorem norm_isRight {neg : Bool} {s : List UInt8} {e : Int} (hs : ∀ c ∈ s, isD c = true) (h : (normF neg s e).2 = 0) : RightP (normF neg s e).1.1 (normF neg s e).1.2.1 (normF neg s e).1.2.2 := by
  unfold normF at h ⊢
  split
  · decide
  · rename_i h0
    rw [if_neg h0] at h
    split
    · decide
    · rename_i h1
      rw [if_neg h1] at h
      split
      · decide
      · rename_i h2
        dsimp only
        rw [right_cons h0]
        obtain ⟨z, hz⟩ := tL_split (tR s)
        have hk := tR_lastOk s
        have hmem : ∀ c ∈ tL (tR s), isD c = true := fun c hc => hs c (tR_mem (by rw [hz]; exact List.mem_append_right _ hc))
        have hf := tL_first (tR s)
        rw [hz] at hk
        generalize tL (tR s) = d at *
        refine ⟨fun i hi => isD_iff.1 (hmem _ ?_), by omega, fun h => ?_, fun h => ?_, by omega, by omega⟩
        · simp only [Int.toNat_natCast, List.getD_eq_getElem?_getD, List.getElem?_eq_getElem hi, Option.getD_some]
          exact List.getElem_mem hi
        · match d, h0 with
          | c :: l, _ => exact hf c l rfl ((u8_eq (n := 48) (by omega)).1 h)
        · rcases snoc_casesU d with rfl | ⟨r, w, rfl⟩
          · exact h0 rfl
          · have e : ((r ++ [w]).length : Int) - 1 = r.length := by simp
            rw [e, at_last] at h
            exact hk w (zs z ++ r) (by rw [List.append_assoc]) ((u8_eq (n := 48) (by omega)).1 h)

theorem whN_isD (s : List UInt8) (i : Nat) : ∀ c ∈ (whN s i).1, isD c = true := by
  unfold whN
  split
  · intro c hc
    rw [List.mem_singleton.1 hc]
    rfl
  · exact dgT_digit s i
theorem frN_isD (s : List UInt8) (i : Nat) : ∀ c ∈ (frN s i).1, isD c = true := by
  unfold frN
  split
  · exact dgT_digit s (i + 1)
  · intro c hc
    cases hc

theorem parse_right {pw : List UInt8 → Int} {s : List UInt8} (h : (parseG pw s).2.2 = 0) : RightP (parseG pw s).1.1 (parseG pw s).1.2.1 (parseG pw s).1.2.2 := by
  unfold parseG at h ⊢
  split
  · decide
  · rename_i h0
    rw [if_neg h0] at h
    dsimp only at h ⊢
    split
    · rename_i h1
      exact norm_isRight (fun c hc => by
        rcases List.mem_append.1 hc with hc | hc
        · exact whN_isD _ _ c hc
        · exact frN_isD _ _ c hc) h1
    · exact (show RightP false [] 0 by decide)

/-! ### A text that is wholly a number has no letters but e -/

def asc (s : List UInt8) (a b : Nat) : Prop := ∀ i, a ≤ i → i < b → i < s.length → at' s i < 128

theorem asc_dgT (s : List UInt8) (i : Nat) : asc s i (i + (dgT s i).length) := fun j h1 h2 _ => by
  have hm : (dgT s i).getD (j - i) 0 ∈ dgT s i := by
    rw [List.getD_eq_getElem?_getD, List.getElem?_eq_getElem (by omega)]
    exact List.getElem_mem _
  have h3 := isD_iff.1 (dgT_digit s i _ hm)
  rw [dgT_at s i (j - i) (by omega), show i + (j - i) = j by omega] at h3
  unfold at'
  rw [Int.toNat_natCast]
  omega

theorem asc_sat {s : List UInt8} {i : Nat} {c : Int} (h : sat s i c) (hc : c < 128) : asc s i (i + 1) := fun j h1 h2 _ => by
  obtain rfl : j = i := by omega
  have := h.2
  omega
theorem asc_nil (s : List UInt8) (i : Nat) : asc s i i := fun j h1 h2 _ => by omega
theorem asc_app {s : List UInt8} {a b c : Nat} (h : asc s a b) (h2 : asc s b c) : asc s a c := fun j h3 h4 h5 => by
  by_cases hj : j < b
  · exact h j h3 hj h5
  · exact h2 j (by omega) h4 h5

theorem whN_asc (s : List UInt8) (i : Nat) : asc s i (whN s i).2 := by
  unfold whN
  split
  · rename_i h
    exact asc_sat h (by decide)
  · exact asc_dgT s i
theorem frN_asc (s : List UInt8) (i : Nat) : asc s i (frN s i).2 := by
  unfold frN
  split
  · rename_i h
    exact asc_app (asc_sat h.1 (by decide)) (asc_dgT s (i + 1))
  · exact asc_nil s i
theorem sgN_asc (s : List UInt8) (i : Nat) : asc s i (sgN s i) := by
  unfold sgN
  split
  · rename_i h
    rcases h with h | h
    · exact asc_sat h (by decide)
    · exact asc_sat h (by decide)
  · exact asc_nil s i
theorem exN_asc (pw : List UInt8 → Int) (s : List UInt8) (i : Nat) : asc s i (exN pw s i).2 := by
  unfold exN
  split
  · rename_i h
    have h1 : asc s i (i + 1) := by
      rcases h.1 with h | h
      · exact asc_sat h (by decide)
      · exact asc_sat h (by decide)
    exact asc_app h1 (asc_app (sgN_asc s (i + 1)) (asc_dgT s _))
  · exact asc_nil s i
theorem sg0_asc (s : List UInt8) : asc s 0 (sg0 s) := by
  unfold sg0
  split
  · rename_i h
    exact asc_sat h (by decide)
  · exact asc_nil s 0

theorem parse_asc {pw : List UInt8 → Int} {s : List UInt8} (h : (parseG pw s).2.2 = 0) (hl : (parseG pw s).2.1 = s.length) : ∀ c ∈ s, c.toNat < 128 := by
  have key : asc s 0 s.length := by
    unfold parseG at h hl
    split at h
    · cases h
    · rename_i h0
      rw [if_neg h0] at hl
      dsimp only at h hl
      split at h
      · rename_i h1
        rw [if_pos h1] at hl
        have hl : (exN pw s (frN s (whN s (sg0 s)).2).2).2 = s.length := hl
        rw [← hl]
        exact asc_app (sg0_asc s) (asc_app (whN_asc s _) (asc_app (frN_asc s _) (exN_asc pw s _)))
      · rename_i h1
        exact absurd h h1
  intro c hc
  obtain ⟨i, hi, rfl⟩ := List.getElem_of_mem hc
  have := key i (by omega) hi hi
  unfold at' at this
  simp only [Int.toNat_natCast, List.getD_eq_getElem?_getD, List.getElem?_eq_getElem hi, Option.getD_some] at this
  omega

/-- Is all of a text a number? -/
def isNum (s : List UInt8) : Bool := decide ((parseG powP s).2.2 = 0 ∧ (parseG powP s).2.1 = s.length)
/-- Has a text the point, or the letter of the exponent? -/
def dotE (s : List UInt8) : Bool := s.any fun c => c == 46 || c == 101 || c == 69

theorem cont_dotE (s : List UInt8) : Lib.containsAny s [46, 101, 69] = dotE s := by
  unfold Lib.containsAny dotE
  induction s with
  | nil => rfl
  | cons b l ih =>
    have hge := Lib.indexAny_ge [46, 101, 69] l
    rw [List.any_cons, ← ih]
    have e : Lib.indexAny (b :: l) [46, 101, 69] = if ([46, 101, 69] : List UInt8).contains b then 0 else if Lib.indexAny l [46, 101, 69] == -1 then -1 else Lib.indexAny l [46, 101, 69] + 1 := rfl
    rw [e]
    have hc : ([46, 101, 69] : List UInt8).contains b = (b == 46 || b == 101 || b == 69) := by
      simp [List.contains_cons, Bool.or_assoc]
      rfl
    rw [hc]
    generalize (b == 46 || b == 101 || b == 69) = z
    generalize Lib.indexAny l [46, 101, 69] = k at *
    cases z with
    | true => simp
    | false =>
      by_cases hk : k = -1
      · simp [hk]
      · simp [hk]
        omega

end Go.Proofs.YteidmimpkipcfaaDoor.Flow

/- TYPED: keys, in plain words. -/
namespace Go.Proofs.YteidmimpkipcfaaDoor.Flow
open Go

/-- Twice a number, and half the unit. -/
theorem hv_twice (m : Nat) (e : Int) : whF (hv (2 * m) (e - 1)) = whF (hv m e) := by
  by_cases hm : m = 0
  · subst hm
    rw [hv_stop (by omega), hv_stop (by omega)]
    rfl
  · by_cases he : e ≤ 0
    · rw [hv_step (m := 2 * m) (by omega), show 2 * m / 2 = m by omega, show e - 1 + 1 = e by omega]
    · rw [hv_stop (by omega), hv_stop (by omega)]
      unfold whF
      dsimp only
      have h1 : 2 * m * 2 ^ (e - 1).toNat = m * 2 ^ e.toNat := by
        rw [show e.toNat = (e - 1).toNat + 1 by omega, Nat.pow_succ, Nat.mul_comm 2 m, Nat.mul_assoc, Nat.mul_comm 2]
      rw [if_neg (show ¬ 2 * m = 0 by omega), if_neg (show ¬ e - 1 < 0 by omega), if_neg (show ¬ m = 0 from hm), if_neg (show ¬ e < 0 by omega), h1]

theorem hv_shift (m : Nat) (e : Int) : ∀ j : Nat, whF (hv (m * 2 ^ j) (e - j)) = whF (hv m e)
  | 0 => by simp
  | j + 1 => by
    have h1 : m * 2 ^ (j + 1) = 2 * (m * 2 ^ j) := by rw [Nat.pow_succ, ← Nat.mul_assoc, Nat.mul_comm]
    rw [h1, show e - ((j + 1 : Nat) : Int) = e - j - 1 by omega, hv_twice]
    exact hv_shift m e j

/-- A float's parts: what it counts, and the unit. -/
def mS (b : Nat) : Nat := if b / 8388608 % 256 = 0 then b % 8388608 else b % 8388608 + 8388608
def eS (b : Nat) : Int := if b / 8388608 % 256 = 0 then -149 else ((b / 8388608 % 256 : Nat) : Int) - 150
/-- The whole number that a float is. -/
def singleF (b : Nat) : Option Int :=
  if b / 8388608 % 256 = 255 then none
  else match whF (hv (mS b) (eS b)) with
    | none => none
    | some n => some (if 2147483648 ≤ b then -(n : Int) else n)

/-- The double that a float is; n counts the places of a fraction that is below all. -/
def wideF (b n : Nat) : Nat :=
  (if 2147483648 ≤ b then 9223372036854775808 else 0) +
    (if b / 8388608 % 256 = 0 then (if b % 8388608 = 0 then 0 else (n + 873) * 4503599627370496 + (b % 8388608 * 2 ^ (53 - n) - 4503599627370496))
     else (b / 8388608 % 256 + 896) * 4503599627370496 + b % 8388608 * 536870912)

theorem wide_lt {b n : Nat} (hb : b < 4294967296) (hx : b / 8388608 % 256 ≠ 255) (hn : b % 8388608 ≠ 0 → 2 ^ (n - 1) ≤ b % 8388608 ∧ b % 8388608 < 2 ^ n ∧ 1 ≤ n ∧ n ≤ 23) :
    wideF b n < 18446744073709551616 ∧ wholeF (wideF b n) = singleF b := by
  have hs : ∀ B : Nat, B < 9218868437227405312 → (if 2147483648 ≤ b then 9223372036854775808 else 0) + B < 18446744073709551616 ∧
      xP ((if 2147483648 ≤ b then 9223372036854775808 else 0) + B) = xB B ∧ ((if 2147483648 ≤ b then 9223372036854775808 else 0) + B) % 9223372036854775808 = B ∧
      (9223372036854775808 ≤ (if 2147483648 ≤ b then 9223372036854775808 else 0) + B ↔ 2147483648 ≤ b) := fun B hB => by
    unfold xP xB
    split <;> omega
  have fin : ∀ B : Nat, B < 9218868437227405312 → whF (hv (mB B) (eB B)) = whF (hv (mS b) (eS b)) → (if 2147483648 ≤ b then 9223372036854775808 else 0) + B < 18446744073709551616 ∧ wholeF ((if 2147483648 ≤ b then 9223372036854775808 else 0) + B) = singleF b := by
    intro B hB hw
    obtain ⟨h1, h2, h3, h4⟩ := hs B hB
    refine ⟨h1, ?_⟩
    have hxb : xB B < 2047 := by
      unfold xB
      omega
    unfold wholeF singleF
    rw [h2, if_neg (by omega), if_neg hx, h3, hw]
    cases hz : whF (hv (mS b) (eS b)) with
    | none => rfl
    | some n =>
      dsimp only
      by_cases hn : 2147483648 ≤ b
      · rw [if_pos (h4.2 hn), if_pos hn]
      · rw [if_neg (fun h => hn (h4.1 h)), if_neg hn]
  unfold wideF
  by_cases h0 : b / 8388608 % 256 = 0
  · rw [if_pos h0]
    by_cases hf : b % 8388608 = 0
    · rw [if_pos hf]
      refine fin 0 (by decide) ?_
      unfold mS eS
      rw [if_pos h0, if_pos h0, hf]
      have e1 : mB 0 = 0 := by decide
      rw [e1, hv_stop (by omega), hv_stop (by omega)]
      rfl
    · rw [if_neg hf]
      obtain ⟨n1, n2, n3, n4⟩ := hn hf
      generalize hF : b % 8388608 = f at *
      have e52 : (4503599627370496 : Nat) = 2 ^ (n - 1) * 2 ^ (53 - n) := by rw [← Nat.pow_add, show n - 1 + (53 - n) = 52 by omega]
      have e53 : (9007199254740992 : Nat) = 2 ^ n * 2 ^ (53 - n) := by rw [← Nat.pow_add, show n + (53 - n) = 53 by omega]
      have m1 : 4503599627370496 ≤ f * 2 ^ (53 - n) := by rw [e52]; exact Nat.mul_le_mul_right _ n1
      have m2 : f * 2 ^ (53 - n) < 9007199254740992 := by rw [e53]; exact Nat.mul_lt_mul_of_pos_right n2 (Nat.two_pow_pos _)
      have hsh := hv_shift f (-149) (53 - n)
      generalize f * 2 ^ (53 - n) = M at *
      have hxx : xB ((n + 873) * 4503599627370496 + (M - 4503599627370496)) = n + 873 := by unfold xB; omega
      refine fin _ (by omega) ?_
      have hm : mB ((n + 873) * 4503599627370496 + (M - 4503599627370496)) = M := by
        unfold mB
        rw [hxx, if_neg (by omega)]
        omega
      have he : eB ((n + 873) * 4503599627370496 + (M - 4503599627370496)) = -149 - ((53 - n : Nat) : Int) := by
        unfold eB
        rw [hxx, if_neg (by omega)]
        omega
      rw [hm, he, hsh]
      unfold mS eS
      rw [if_pos h0, if_pos h0, hF]
  · rw [if_neg h0]
    generalize hX : b / 8388608 % 256 = x at *
    generalize hF : b % 8388608 = f at *
    have hx8 : x < 256 := by omega
    have hf8 : f < 8388608 := by omega
    have hsh := hv_shift (f + 8388608) ((x : Int) - 150) 29
    have hxx : xB ((x + 896) * 4503599627370496 + f * 536870912) = x + 896 := by unfold xB; omega
    refine fin _ (by omega) ?_
    have hm : mB ((x + 896) * 4503599627370496 + f * 536870912) = (f + 8388608) * 2 ^ 29 := by
      unfold mB
      rw [hxx, if_neg (by omega)]
      omega
    have he : eB ((x + 896) * 4503599627370496 + f * 536870912) = (x : Int) - 150 - ((29 : Nat) : Int) := by
      unfold eB
      rw [hxx, if_neg (by omega)]
      omega
    rw [hm, he, hsh]
    unfold mS eS
    rw [hX, if_neg h0, if_neg h0, hF]

/-- May a value be? (The text is valid or not: b.) -/
def valR (kind : Int) (b : Bool) (bits : Nat) : Bool :=
  if kind = 1 then b else if kind = 2 then decide (bits < 4294967296) else if kind = 7 then decide (bits < 2) else decide (1 ≤ kind ∧ kind ≤ 7)

/-- A number of 64 bits read as one with a sign. -/
def i64F (bits : Nat) : Int := if 9223372036854775808 ≤ bits then (bits : Int) - 18446744073709551616 else bits

/-- What meets a value. -/
def keyF (kind : Int) (s : List UInt8) (valid : Bool) (bits : Nat) : List UInt8 × Bool :=
  if valR kind valid bits = false then ([], false)
  else if kind = 1 then (s, true)
  else if kind = 5 then (Lib.decDigits bits, true)
  else if kind = 7 then ((if bits = 1 then [116, 114, 117, 101] else [102, 97, 108, 115, 101]), true)
  else if kind = 2 then wText (singleF bits)
  else if kind = 3 then wText (wholeF bits)
  else (Lib.itoa (i64F bits), true)

end Go.Proofs.YteidmimpkipcfaaDoor.Flow
