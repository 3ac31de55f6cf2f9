/- CSV: the document's side. -/
import Derived.Test.YtejpliaomhpakaaFlowO
namespace Go.Proofs.Ytejpliaomhpakaa.Flow
open Go

def endF (s : List UInt8) (i : Int) : Int :=
  if i < s.length ∧ at' s i = 10 then 1 else if i + 1 < s.length ∧ at' s i = 13 ∧ at' s (i+1) = 10 then 2 else 0

def overF (s : List UInt8) (i : Int) : Bool := decide (s.length ≤ i) || decide (at' s i = 44) || decide (endF s i > 0)

def quotF (s : List UInt8) (i : Int) (b : List UInt8) : List UInt8 × Int × Int :=
  if h : i < s.length then
    if at' s i ≠ 34 then quotF s (i + 1) (b ++ [s.getD i.toNat 0])
    else if i + 1 < s.length ∧ at' s (i + 1) = 34 then quotF s (i + 2) (b ++ [34])
    else if overF s (i + 1) then (b, i + 1, 0)
    else ([], i + 1, 3)
  else ([], i, 2)
termination_by (s.length - i).toNat
decreasing_by all_goals omega

def plainF (s : List UInt8) (i : Int) (b : List UInt8) : List UInt8 × Int × Int :=
  if h : overF s i then (b, i, 0)
  else if at' s i = 34 ∨ at' s i = 13 then ([], i, 3)
  else plainF s (i + 1) (b ++ [s.getD i.toNat 0])
termination_by (s.length - i).toNat
decreasing_by
  have : ¬ s.length ≤ i := by
    intro h'
    apply h
    simp [overF, h']
  omega

def fieldF (s : List UInt8) (i : Int) : List UInt8 × Int × Int :=
  if i < s.length ∧ at' s i = 34 then quotF s (i + 1) [] else plainF s i []

def three (x : List UInt8 × Int × Int) : D := .tu [.s x.1, .i .i64 x.2.1, .i .i64 x.2.2]

theorem byte_eq (x : UInt8) (n : Nat) (h : n < 256) : (x.toNat : Int) = n ↔ x = UInt8.ofNat n := by
  constructor
  · intro h1
    have h2 : x.toNat = n := by exact_mod_cast h1
    apply UInt8.toNat.inj
    simp [h2]; omega
  · intro h1
    subst h1
    simp; omega

theorem bytesOf_bytesF (l : List UInt8) : bytesOf l.length (bytesF l) = l := by
  apply List.ext_getElem
  · simp [bytesOf]
  · intro n h1 h2
    simp [bytesOf, bytesF, byteOf, h2]

theorem catF_byte (l : List UInt8) (x : UInt8) (g : Nat → List D) (hg : g 0 = [.i .u8 (x.toNat : Int)]) : catF l.length (bytesF l) 1 g = bytesF (l ++ [x]) := by
  funext j
  unfold catF
  by_cases h : j < l.length
  · rw [if_pos h]
    simp [bytesF, List.getD_eq_getElem?_getD, h, List.getElem?_append_left]
  · rw [if_neg h]
    by_cases h2 : j < l.length + 1
    · have : j = l.length := by omega
      subst this
      simp [hg, bytesF]
    · rw [if_neg h2]
      simp [bytesF, List.getD_eq_getElem?_getD, show l.length ≤ j by omega]
      rw [List.getElem?_eq_none (by simp; omega)]
      rfl

/-- The growing row of bytes after one more. -/
theorem gs_byte (k : Nat) (l : List UInt8) (x : UInt8) (g : Nat → List D) (hg : g 0 = [.i .u8 (x.toNat : Int)]) : D.gs k 1 (l.length + 1) (catF l.length (bytesF l) 1 g) = D.gs k 1 (l ++ [x]).length (bytesF (l ++ [x])) := by
  rw [catF_byte l x g hg]
  simp

theorem endF_pos (s : List UInt8) (i : Int) : 0 ≤ endF s i ∧ endF s i ≤ 2 := by
  unfold endF
  split
  · omega
  · split <;> omega

theorem endF_le (s : List UInt8) (i : Int) (h : i ≤ s.length) : i + endF s i ≤ s.length := by
  unfold endF
  split
  · omega
  · split <;> omega

theorem end_ctr (s : List UInt8) (i : Int) (hs : s.length ≤ 4611686018427387904) (hi : 0 ≤ i) (hi2 : i ≤ s.length + 2) : Ctr Try.prog 64 [.s s, .i .i64 i] (.i .i64 (endF s i)) := by
  refine r_fun Try.func64 rfl Try.ntmps64 Try.results64 rfl rfl fun X hL hX => ?_
  repeat' (first
    | with_reducible refine t_seq ?_ | with_reducible refine t_region ?_ | with_reducible refine c_nil ?_ | with_reducible refine n_then ?_
    | with_reducible refine t_ret ?_ | with_reducible refine t_skip ?_ | with_reducible refine t_exit ?_ | with_reducible refine t_block ?_
    | with_reducible refine n_block ?_ | with_reducible refine e_then ?_ | with_reducible refine x_then ?_ | with_reducible refine x_block ?_ | with_reducible refine t_draw ?_
    | refine r_val rfl rfl True.intro ?_ | refine r_gskip rfl rfl rfl ?_ | refine r_gskip2 rfl rfl rfl ?_ | refine r_gval rfl rfl rfl rfl True.intro ?_
    | refine t_true rfl ?_ | refine t_false rfl ?_
    | ((first | refine t_cond_d rfl (fun _ => ?_) (fun _ => ?_) | refine t_cond_i rfl (fun _ => ?_) (fun _ => ?_) | refine t_cond_j rfl (fun _ => ?_) (fun _ => ?_) | refine t_cond_s rfl (fun _ => ?_) (fun _ => ?_) | refine t_cond_n rfl (fun _ => ?_) (fun _ => ?_) | refine t_cond rfl (fun _ => ?_) (fun _ => ?_) | refine c_split_d rfl rfl (fun _ => ?_) (fun _ => ?_) | refine c_split_i rfl rfl (fun _ => ?_) (fun _ => ?_) | refine c_split_j rfl rfl (fun _ => ?_) (fun _ => ?_) | refine c_split_s rfl rfl (fun _ => ?_) (fun _ => ?_) | refine c_split_n rfl rfl (fun _ => ?_) (fun _ => ?_)) <;> try (first | contradiction | (exfalso; omega)))
    | refine r_val rfl rfl (by first | omega | exact Nat.le_of_ble_eq_true rfl | (simp_all; done) | (simp_all; omega) | ((repeat' refine And.intro ?_ ?_) <;> first | omega | rfl | exact Nat.le_of_ble_eq_true rfl | exact bytesF_one _ | (simp_all; done) | (simp_all; omega))) ?_ | refine r_gval rfl rfl rfl rfl (by first | omega | exact Nat.le_of_ble_eq_true rfl | (simp_all; done) | (simp_all; omega) | ((repeat' refine And.intro ?_ ?_) <;> first | omega | rfl | exact Nat.le_of_ble_eq_true rfl | exact bytesF_one _ | (simp_all; done) | (simp_all; omega))) ?_
    | refine r_obj rfl rfl (by first | omega | exact Nat.le_of_ble_eq_true rfl | (simp_all; done) | (simp_all; omega) | ((repeat' refine And.intro ?_ ?_) <;> first | omega | rfl | exact Nat.le_of_ble_eq_true rfl | exact bytesF_one _ | (simp_all; done) | (simp_all; omega))) ?_ | refine r_sto rfl (by first | omega | exact Nat.le_of_ble_eq_true rfl | (simp_all; done) | (simp_all; omega) | ((repeat' refine And.intro ?_ ?_) <;> first | omega | rfl | exact Nat.le_of_ble_eq_true rfl | exact bytesF_one _ | (simp_all; done) | (simp_all; omega))) ?_ | refine r_gobj rfl rfl rfl rfl (by first | omega | exact Nat.le_of_ble_eq_true rfl | (simp_all; done) | (simp_all; omega) | ((repeat' refine And.intro ?_ ?_) <;> first | omega | rfl | exact Nat.le_of_ble_eq_true rfl | exact bytesF_one _ | (simp_all; done) | (simp_all; omega))) ?_
    | refine e_hit rfl ?_ | refine e_miss rfl ?_
    | refine ⟨by kernel_rfl, ?_⟩ | refine x_end rfl ?_ | ((with_reducible refine c_grd ?_); (fail_if_success (refine c_lit true rfl rfl rfl ?_)); (fail_if_success (refine c_lit false rfl rfl rfl ?_)); refine c_split rfl rfl (fun _ => ?_) (fun _ => ?_)))
  all_goals (congr 1; grind [endF])

theorem over_ctr (s : List UInt8) (i : Int) (hs : s.length ≤ 4611686018427387904) (hi : 0 ≤ i) (hi2 : i ≤ s.length + 1) : Ctr Try.prog 73 [.s s, .i .i64 i] (.b (overF s i)) := by
  refine r_fun Try.func73 rfl Try.ntmps73 Try.results73 rfl rfl fun X hL hX => ?_
  repeat' (first
    | with_reducible refine t_seq ?_ | with_reducible refine t_region ?_ | with_reducible refine c_nil ?_ | with_reducible refine n_then ?_
    | with_reducible refine t_ret ?_ | with_reducible refine t_skip ?_ | with_reducible refine t_exit ?_ | with_reducible refine t_block ?_
    | with_reducible refine n_block ?_ | with_reducible refine e_then ?_ | with_reducible refine x_then ?_ | with_reducible refine x_block ?_ | with_reducible refine t_draw ?_
    | refine r_val rfl rfl True.intro ?_ | refine r_gskip rfl rfl rfl ?_ | refine r_gskip2 rfl rfl rfl ?_ | refine r_gval rfl rfl rfl rfl True.intro ?_
    | refine t_true rfl ?_ | refine t_false rfl ?_
    | ((first | refine t_cond_d rfl (fun _ => ?_) (fun _ => ?_) | refine t_cond_i rfl (fun _ => ?_) (fun _ => ?_) | refine t_cond_j rfl (fun _ => ?_) (fun _ => ?_) | refine t_cond_s rfl (fun _ => ?_) (fun _ => ?_) | refine t_cond_n rfl (fun _ => ?_) (fun _ => ?_) | refine t_cond rfl (fun _ => ?_) (fun _ => ?_) | refine c_split_d rfl rfl (fun _ => ?_) (fun _ => ?_) | refine c_split_i rfl rfl (fun _ => ?_) (fun _ => ?_) | refine c_split_j rfl rfl (fun _ => ?_) (fun _ => ?_) | refine c_split_s rfl rfl (fun _ => ?_) (fun _ => ?_) | refine c_split_n rfl rfl (fun _ => ?_) (fun _ => ?_)) <;> try (first | contradiction | (exfalso; omega)))
    | refine r_val rfl rfl (by first | omega | exact Nat.le_of_ble_eq_true rfl | (simp_all; done) | (simp_all; omega) | ((repeat' refine And.intro ?_ ?_) <;> first | omega | rfl | exact Nat.le_of_ble_eq_true rfl | exact bytesF_one _ | (simp_all; done) | (simp_all; omega))) ?_ | refine r_gval rfl rfl rfl rfl (by first | omega | exact Nat.le_of_ble_eq_true rfl | (simp_all; done) | (simp_all; omega) | ((repeat' refine And.intro ?_ ?_) <;> first | omega | rfl | exact Nat.le_of_ble_eq_true rfl | exact bytesF_one _ | (simp_all; done) | (simp_all; omega))) ?_
    | refine r_obj rfl rfl (by first | omega | exact Nat.le_of_ble_eq_true rfl | (simp_all; done) | (simp_all; omega) | ((repeat' refine And.intro ?_ ?_) <;> first | omega | rfl | exact Nat.le_of_ble_eq_true rfl | exact bytesF_one _ | (simp_all; done) | (simp_all; omega))) ?_ | refine r_sto rfl (by first | omega | exact Nat.le_of_ble_eq_true rfl | (simp_all; done) | (simp_all; omega) | ((repeat' refine And.intro ?_ ?_) <;> first | omega | rfl | exact Nat.le_of_ble_eq_true rfl | exact bytesF_one _ | (simp_all; done) | (simp_all; omega))) ?_ | refine r_gobj rfl rfl rfl rfl (by first | omega | exact Nat.le_of_ble_eq_true rfl | (simp_all; done) | (simp_all; omega) | ((repeat' refine And.intro ?_ ?_) <;> first | omega | rfl | exact Nat.le_of_ble_eq_true rfl | exact bytesF_one _ | (simp_all; done) | (simp_all; omega))) ?_
    | refine e_hit rfl ?_ | refine e_miss rfl ?_
    | refine ⟨by kernel_rfl, ?_⟩ | refine x_end rfl ?_ | refine r_gcall rfl rfl rfl rfl Try.call64 rfl (end_ctr s i hs hi (by omega)) ?_ | refine r_call rfl rfl Try.call64 rfl (end_ctr s i hs hi (by omega)) ?_ | ((with_reducible refine c_grd ?_); (fail_if_success (refine c_lit true rfl rfl rfl ?_)); (fail_if_success (refine c_lit false rfl rfl rfl ?_)); refine c_split rfl rfl (fun _ => ?_) (fun _ => ?_)))
  all_goals (congr 1; grind [overF])

end Go.Proofs.Ytejpliaomhpakaa.Flow
