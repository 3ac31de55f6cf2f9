/- The texts BD9, BT3, BFlowS, one behind the other. -/
import Derived.Test.YteidmimpkipcfaaDoorKB5
import Derived.Test.YteidmimpkipcfaaDoorKB8
import Derived.Test.YteidmimpkipcfaaDoorKB9
import Derived.Lib.IndexAny
import Derived.Lib.OthersKept
/- DEC: the reference's Parse. -/
namespace Go.Proofs.YteidmimpkipcfaaDoor.Flow
open Go

theorem powR_stuck : ∀ (x : List UInt8) (n : Int), 1000000000 ≤ n → x.foldl (fun n c => if n < 1000000000 then 10 * n + (c.toNat : Int) - 48 else n) n = n
  | [], _, _ => rfl
  | c :: x, n, h => by
    rw [List.foldl_cons, if_neg (by omega)]
    exact powR_stuck x n h

theorem powR_split (x : List UInt8) (m : Nat) : powR x = (x.drop m).foldl (fun n c => if n < 1000000000 then 10 * n + (c.toNat : Int) - 48 else n) (powR (x.take m)) := by
  unfold powR
  rw [← List.foldl_append, List.take_append_drop]

theorem powR_done (x : List UInt8) (m : Nat) (h : 1000000000 ≤ powR (x.take m)) : powR x = powR (x.take m) := by
  rw [powR_split x m, powR_stuck _ _ h]

theorem powR_snoc (l : List UInt8) (c : UInt8) (h : powR l < 1000000000) : powR (l ++ [c]) = 10 * powR l + (c.toNat : Int) - 48 := by
  unfold powR at *
  rw [List.foldl_append, List.foldl_cons, List.foldl_nil, if_pos h]

theorem powR_le (x : List UInt8) (hx : ∀ c ∈ x, isD c = true) : 0 ≤ powR x ∧ powR x < 20000000000 := by
  have key : ∀ (x : List UInt8) (n : Int), (∀ c ∈ x, isD c = true) → 0 ≤ n → n < 20000000000 → 0 ≤ x.foldl (fun n c => if n < 1000000000 then 10 * n + (c.toNat : Int) - 48 else n) n ∧ x.foldl (fun n c => if n < 1000000000 then 10 * n + (c.toNat : Int) - 48 else n) n < 20000000000 := by
    intro x
    induction x with
    | nil => exact fun n _ h h2 => ⟨h, h2⟩
    | cons c x ih =>
      intro n hx h h2
      have := isD_iff.1 (hx c (by simp))
      rw [List.foldl_cons]
      refine ih _ (fun c hc => hx c (by simp [hc])) ?_ ?_
      · split <;> omega
      · split <;> omega
  exact key x 0 hx (by omega) (by omega)

theorem dgT_at (s : List UInt8) (i k : Nat) (h : k < (dgT s i).length) : (dgT s i).getD k 0 = s.getD (i + k) 0 := by
  have e : dgT s i = (s.drop i).take (dgT s i).length := (takeWhile_take _).symm
  have hl := dgT_len s i
  rw [e]
  simp only [List.getD_eq_getElem?_getD, List.getElem?_take, h, if_true, List.getElem?_drop]

theorem dgT_ne (s : List UInt8) (i : Nat) (h : sat s i 48) : ¬ dgT s i = [] := by
  rw [dgT_more h.1 (by have := h.2; omega)]
  simp

theorem whN_cut (s : List UInt8) (i : Nat) : (s.take (whN s i).2).drop i = (whN s i).1 := by
  unfold whN
  split
  · rename_i h
    have := cutD s i h.1
    rw [this]
    have e : s.getD i 0 = 48 := (u8_eq (n := 48) (by omega)).1 h.2
    rw [e]
  · exact dgT_cut s i
where
  cutD (s : List UInt8) (i : Nat) (h : i < s.length) : (s.take (i + 1)).drop i = [s.getD i 0] := by
    rw [List.take_add_one, List.drop_append_of_le_length (by simp; omega), List.drop_eq_nil_of_le (by simp; omega)]
    simp [h, List.getD_eq_getElem?_getD]

theorem whN_nil (s : List UInt8) (i : Nat) : (whN s i).1 = [] ↔ dgT s i = [] := by
  unfold whN
  split
  · rename_i h
    simp [dgT_ne s i h]
  · exact Iff.rfl

set_option maxHeartbeats 4000000 in
theorem rparse_ctr (s : List UInt8) (hs : s.length ≤ 1048576) : Ctr Tryd.prog 57 [.s s] (.tu [dcV (parseG powR s).1, .i .i64 (parseG powR s).2.1, .i .i64 (parseG powR s).2.2]) := by
  generalize hR : parseG powR s = R
  unfold parseG at hR
  replace hR := fun _ : Unit => hR.symm
  refine r_fun Tryd.func57 rfl Tryd.ntmps57 Tryd.results57 rfl rfl fun X hL hX => ?_
  have n1 : 0 < s.length → (at' s 0 == 45) = decide (sat s 0 45) := fun h => by
    rw [Bool.eq_iff_iff, beq_iff_eq, decide_eq_true_iff]
    exact ⟨fun h2 => ⟨h, h2⟩, fun h2 => h2.2⟩
  have n2 : ¬ 0 < s.length → false = decide (sat s 0 45) := fun h => (decide_eq_false fun h2 => h h2.1).symm
  repeat' (first
    | refine r_midr 2 hL (fun _ : Unit => [(0, .s s), (2, .pv 2 0), (5, .i .i64 0), (6, .b (decide (sat s 0 45)))]) (fun _ => [(2, .var [.b false, .s [], .i .i64 0])]) (fun _ => True) ?_ ?_
    | with_reducible refine t_seq ?_ | with_reducible refine t_region ?_ | with_reducible refine c_nil ?_ | with_reducible refine n_then ?_
    | with_reducible refine t_ret ?_ | with_reducible refine t_skip ?_ | with_reducible refine t_exit ?_ | with_reducible refine t_block ?_
    | with_reducible refine n_block ?_ | with_reducible refine e_then ?_ | with_reducible refine x_then ?_ | with_reducible refine x_block ?_ | with_reducible refine t_draw ?_
    | refine r_val rfl rfl True.intro ?_ | refine r_gskip rfl rfl rfl ?_ | refine r_gskip2 rfl rfl rfl ?_ | refine r_gval rfl rfl rfl rfl True.intro ?_
    | refine t_true rfl ?_ | refine t_false rfl ?_
    | ((first | refine t_cond_d rfl (fun _ => ?_) (fun _ => ?_) | refine t_cond_i rfl (fun _ => ?_) (fun _ => ?_) | refine t_cond_j rfl (fun _ => ?_) (fun _ => ?_) | refine t_cond_s rfl (fun _ => ?_) (fun _ => ?_) | refine t_cond_n rfl (fun _ => ?_) (fun _ => ?_) | refine t_cond rfl (fun _ => ?_) (fun _ => ?_) | refine c_split_d rfl rfl (fun _ => ?_) (fun _ => ?_) | refine c_split_i rfl rfl (fun _ => ?_) (fun _ => ?_) | refine c_split_j rfl rfl (fun _ => ?_) (fun _ => ?_) | refine c_split_s rfl rfl (fun _ => ?_) (fun _ => ?_) | refine c_split_n rfl rfl (fun _ => ?_) (fun _ => ?_)) <;> try (first | contradiction | (exfalso; omega)))
    | refine r_val rfl rfl (by (first | omega | exact Nat.le_of_ble_eq_true rfl | (simp only [wrap_u8, IntKind.wrap_i64, IntKind.wrap_i32, wrap_u32', wrap_u64', InI]; (repeat' refine And.intro ?_ ?_) <;> omega) | ((repeat' refine And.intro ?_ ?_) <;> first | omega | rfl | exact Nat.le_refl _ | exact Nat.le_of_ble_eq_true rfl | exact bytesF_one _) | (simp_all; done) | (simp_all; omega))) ?_ | refine r_gval rfl rfl rfl rfl (by (first | omega | exact Nat.le_of_ble_eq_true rfl | (simp only [wrap_u8, IntKind.wrap_i64, IntKind.wrap_i32, wrap_u32', wrap_u64', InI]; (repeat' refine And.intro ?_ ?_) <;> omega) | ((repeat' refine And.intro ?_ ?_) <;> first | omega | rfl | exact Nat.le_refl _ | exact Nat.le_of_ble_eq_true rfl | exact bytesF_one _) | (simp_all; done) | (simp_all; omega))) ?_
    | refine r_obj rfl rfl (by (first | omega | exact Nat.le_of_ble_eq_true rfl | (simp only [wrap_u8, IntKind.wrap_i64, IntKind.wrap_i32, wrap_u32', wrap_u64', InI]; (repeat' refine And.intro ?_ ?_) <;> omega) | ((repeat' refine And.intro ?_ ?_) <;> first | omega | rfl | exact Nat.le_refl _ | exact Nat.le_of_ble_eq_true rfl | exact bytesF_one _) | (simp_all; done) | (simp_all; omega))) ?_ | refine r_sto rfl (by (first | omega | exact Nat.le_of_ble_eq_true rfl | (simp only [wrap_u8, IntKind.wrap_i64, IntKind.wrap_i32, wrap_u32', wrap_u64', InI]; (repeat' refine And.intro ?_ ?_) <;> omega) | ((repeat' refine And.intro ?_ ?_) <;> first | omega | rfl | exact Nat.le_refl _ | exact Nat.le_of_ble_eq_true rfl | exact bytesF_one _) | (simp_all; done) | (simp_all; omega))) ?_ | refine r_gobj rfl rfl rfl rfl (by (first | omega | exact Nat.le_of_ble_eq_true rfl | (simp only [wrap_u8, IntKind.wrap_i64, IntKind.wrap_i32, wrap_u32', wrap_u64', InI]; (repeat' refine And.intro ?_ ?_) <;> omega) | ((repeat' refine And.intro ?_ ?_) <;> first | omega | rfl | exact Nat.le_refl _ | exact Nat.le_of_ble_eq_true rfl | exact bytesF_one _) | (simp_all; done) | (simp_all; omega))) ?_
    | refine e_hit rfl ?_ | refine e_miss rfl ?_
    | refine ⟨by kernel_rfl, ?_⟩ | ((with_reducible refine c_grd ?_); (fail_if_success (refine c_lit true rfl rfl rfl ?_)); (fail_if_success (refine c_lit false rfl rfl rfl ?_)); refine c_split rfl rfl (fun _ => ?_) (fun _ => ?_)))
  · exact ⟨(), trivial, ⟨rfl, rfl, rfl, congrArg D.b (n1 (by omega)), trivial⟩, ⟨rfl, trivial⟩, rfl, by rw [hX]; intro k hk; cases hk⟩
  · exact ⟨(), trivial, ⟨rfl, rfl, rfl, congrArg D.b (n2 (by omega)), trivial⟩, ⟨rfl, trivial⟩, rfl, by rw [hX]; intro k hk; cases hk⟩
  clear n1 n2
  intro _ _
  have e5 : sat s 0 45 → (1 : Int) = (sg0 s : Int) := fun h => by unfold sg0; rw [if_pos h]; rfl
  have e5' : ¬ sat s 0 45 → (0 : Int) = (sg0 s : Int) := fun h => by unfold sg0; rw [if_neg h]; rfl
  repeat' (first
    | refine r_mid 3 hL (fun _ : Unit => [(0, .s s), (2, .pv 2 0), (5, .i .i64 (sg0 s)), (6, .b (decide (sat s 0 45)))]) (fun _ => [(2, .var [.b false, .s [], .i .i64 0])]) (fun _ => True) ?_ ?_
    | with_reducible refine t_seq ?_ | with_reducible refine t_region ?_ | with_reducible refine c_nil ?_ | with_reducible refine n_then ?_
    | with_reducible refine t_ret ?_ | with_reducible refine t_skip ?_ | with_reducible refine t_exit ?_ | with_reducible refine t_block ?_
    | with_reducible refine n_block ?_ | with_reducible refine e_then ?_ | with_reducible refine x_then ?_ | with_reducible refine x_block ?_ | with_reducible refine t_draw ?_
    | refine r_val rfl rfl True.intro ?_ | refine r_gskip rfl rfl rfl ?_ | refine r_gskip2 rfl rfl rfl ?_ | refine r_gval rfl rfl rfl rfl True.intro ?_
    | refine t_true rfl ?_ | refine t_false rfl ?_
    | ((first | refine t_cond_d rfl (fun _ => ?_) (fun _ => ?_) | refine t_cond_i rfl (fun _ => ?_) (fun _ => ?_) | refine t_cond_j rfl (fun _ => ?_) (fun _ => ?_) | refine t_cond_s rfl (fun _ => ?_) (fun _ => ?_) | refine t_cond_n rfl (fun _ => ?_) (fun _ => ?_) | refine t_cond rfl (fun _ => ?_) (fun _ => ?_) | refine c_split_d rfl rfl (fun _ => ?_) (fun _ => ?_) | refine c_split_i rfl rfl (fun _ => ?_) (fun _ => ?_) | refine c_split_j rfl rfl (fun _ => ?_) (fun _ => ?_) | refine c_split_s rfl rfl (fun _ => ?_) (fun _ => ?_) | refine c_split_n rfl rfl (fun _ => ?_) (fun _ => ?_)) <;> try (first | contradiction | (exfalso; omega)))
    | refine r_val rfl rfl (by (first | omega | exact Nat.le_of_ble_eq_true rfl | (simp only [wrap_u8, IntKind.wrap_i64, IntKind.wrap_i32, wrap_u32', wrap_u64', InI]; (repeat' refine And.intro ?_ ?_) <;> omega) | ((repeat' refine And.intro ?_ ?_) <;> first | omega | rfl | exact Nat.le_refl _ | exact Nat.le_of_ble_eq_true rfl | exact bytesF_one _) | (simp_all; done) | (simp_all; omega))) ?_ | refine r_gval rfl rfl rfl rfl (by (first | omega | exact Nat.le_of_ble_eq_true rfl | (simp only [wrap_u8, IntKind.wrap_i64, IntKind.wrap_i32, wrap_u32', wrap_u64', InI]; (repeat' refine And.intro ?_ ?_) <;> omega) | ((repeat' refine And.intro ?_ ?_) <;> first | omega | rfl | exact Nat.le_refl _ | exact Nat.le_of_ble_eq_true rfl | exact bytesF_one _) | (simp_all; done) | (simp_all; omega))) ?_
    | refine r_obj rfl rfl (by (first | omega | exact Nat.le_of_ble_eq_true rfl | (simp only [wrap_u8, IntKind.wrap_i64, IntKind.wrap_i32, wrap_u32', wrap_u64', InI]; (repeat' refine And.intro ?_ ?_) <;> omega) | ((repeat' refine And.intro ?_ ?_) <;> first | omega | rfl | exact Nat.le_refl _ | exact Nat.le_of_ble_eq_true rfl | exact bytesF_one _) | (simp_all; done) | (simp_all; omega))) ?_ | refine r_sto rfl (by (first | omega | exact Nat.le_of_ble_eq_true rfl | (simp only [wrap_u8, IntKind.wrap_i64, IntKind.wrap_i32, wrap_u32', wrap_u64', InI]; (repeat' refine And.intro ?_ ?_) <;> omega) | ((repeat' refine And.intro ?_ ?_) <;> first | omega | rfl | exact Nat.le_refl _ | exact Nat.le_of_ble_eq_true rfl | exact bytesF_one _) | (simp_all; done) | (simp_all; omega))) ?_ | refine r_gobj rfl rfl rfl rfl (by (first | omega | exact Nat.le_of_ble_eq_true rfl | (simp only [wrap_u8, IntKind.wrap_i64, IntKind.wrap_i32, wrap_u32', wrap_u64', InI]; (repeat' refine And.intro ?_ ?_) <;> omega) | ((repeat' refine And.intro ?_ ?_) <;> first | omega | rfl | exact Nat.le_refl _ | exact Nat.le_of_ble_eq_true rfl | exact bytesF_one _) | (simp_all; done) | (simp_all; omega))) ?_
    | refine e_hit rfl ?_ | refine e_miss rfl ?_
    | refine ⟨by kernel_rfl, ?_⟩ | ((with_reducible refine c_grd ?_); (fail_if_success (refine c_lit true rfl rfl rfl ?_)); (fail_if_success (refine c_lit false rfl rfl rfl ?_)); refine c_split rfl rfl (fun _ => ?_) (fun _ => ?_)))
  · exact ⟨(), trivial, ⟨rfl, rfl, congrArg (D.i .i64) (e5 ‹_›), rfl, trivial⟩, ⟨rfl, trivial⟩, rfl, by rw [hX]; intro k hk; cases hk⟩
  · exact ⟨(), trivial, ⟨rfl, rfl, congrArg (D.i .i64) (e5' ‹_›), rfl, trivial⟩, ⟨rfl, trivial⟩, rfl, by rw [hX]; intro k hk; cases hk⟩
  clear e5 e5'
  intro _ _
  have hi := sg0_le (s := s)
  generalize sg0 s = i at hR hi ⊢
  have c1 := rdigits_ctr s i hs hi
  have L0 := whN_nil s i
  have L1 := fun h => whN_pos (s := s) (i := i) h
  have L2 := fun h => whN_neg (s := s) (i := i) h
  have hl := dgT_len s i
  have hz : (dgT s i).length = 0 ↔ dgT s i = [] := List.length_eq_zero_iff
  have hi2 : ¬ (dgT s i).length = 0 → i < s.length := fun h => by omega
  have L0 := fun _ : Unit => L0
  have hz := fun _ : Unit => hz
  repeat' (first
    | refine r_mid 8 hL (fun _ : Unit => [(0, .s s), (2, .pv 2 0), (5, .i .i64 i), (6, .b (decide (sat s 0 45))), (7, .i .i64 (whN s i).2)]) (fun _ => [(2, .var [.b false, .s [], .i .i64 0])]) (fun _ => ¬ (whN s i).1 = []) ?_ ?_
    | with_reducible refine t_seq ?_ | with_reducible refine t_region ?_ | with_reducible refine c_nil ?_ | with_reducible refine n_then ?_
    | with_reducible refine t_ret ?_ | with_reducible refine t_skip ?_ | with_reducible refine t_exit ?_ | with_reducible refine t_block ?_
    | with_reducible refine n_block ?_ | with_reducible refine e_then ?_ | with_reducible refine x_then ?_ | with_reducible refine x_block ?_ | with_reducible refine t_draw ?_
    | refine r_val rfl rfl True.intro ?_ | refine r_gskip rfl rfl rfl ?_ | refine r_gskip2 rfl rfl rfl ?_ | refine r_gval rfl rfl rfl rfl True.intro ?_
    | refine t_true rfl ?_ | refine t_false rfl ?_
    | ((first | refine t_cond_d rfl (fun _ => ?_) (fun _ => ?_) | refine t_cond_i rfl (fun _ => ?_) (fun _ => ?_) | refine t_cond_j rfl (fun _ => ?_) (fun _ => ?_) | refine t_cond_s rfl (fun _ => ?_) (fun _ => ?_) | refine t_cond_n rfl (fun _ => ?_) (fun _ => ?_) | refine t_cond rfl (fun _ => ?_) (fun _ => ?_) | refine c_split_d rfl rfl (fun _ => ?_) (fun _ => ?_) | refine c_split_i rfl rfl (fun _ => ?_) (fun _ => ?_) | refine c_split_j rfl rfl (fun _ => ?_) (fun _ => ?_) | refine c_split_s rfl rfl (fun _ => ?_) (fun _ => ?_) | refine c_split_n rfl rfl (fun _ => ?_) (fun _ => ?_)) <;> try (first | contradiction | (exfalso; omega)))
    | refine r_val rfl rfl (by (first | omega | exact Nat.le_of_ble_eq_true rfl | (simp only [wrap_u8, IntKind.wrap_i64, IntKind.wrap_i32, wrap_u32', wrap_u64', InI]; (repeat' refine And.intro ?_ ?_) <;> omega) | ((repeat' refine And.intro ?_ ?_) <;> first | omega | rfl | exact Nat.le_refl _ | exact Nat.le_of_ble_eq_true rfl | exact bytesF_one _) | (simp_all; done) | (simp_all; omega))) ?_ | refine r_gval rfl rfl rfl rfl (by (first | omega | exact Nat.le_of_ble_eq_true rfl | (simp only [wrap_u8, IntKind.wrap_i64, IntKind.wrap_i32, wrap_u32', wrap_u64', InI]; (repeat' refine And.intro ?_ ?_) <;> omega) | ((repeat' refine And.intro ?_ ?_) <;> first | omega | rfl | exact Nat.le_refl _ | exact Nat.le_of_ble_eq_true rfl | exact bytesF_one _) | (simp_all; done) | (simp_all; omega))) ?_
    | refine r_obj rfl rfl (by (first | omega | exact Nat.le_of_ble_eq_true rfl | (simp only [wrap_u8, IntKind.wrap_i64, IntKind.wrap_i32, wrap_u32', wrap_u64', InI]; (repeat' refine And.intro ?_ ?_) <;> omega) | ((repeat' refine And.intro ?_ ?_) <;> first | omega | rfl | exact Nat.le_refl _ | exact Nat.le_of_ble_eq_true rfl | exact bytesF_one _) | (simp_all; done) | (simp_all; omega))) ?_ | refine r_sto rfl (by (first | omega | exact Nat.le_of_ble_eq_true rfl | (simp only [wrap_u8, IntKind.wrap_i64, IntKind.wrap_i32, wrap_u32', wrap_u64', InI]; (repeat' refine And.intro ?_ ?_) <;> omega) | ((repeat' refine And.intro ?_ ?_) <;> first | omega | rfl | exact Nat.le_refl _ | exact Nat.le_of_ble_eq_true rfl | exact bytesF_one _) | (simp_all; done) | (simp_all; omega))) ?_ | refine r_gobj rfl rfl rfl rfl (by (first | omega | exact Nat.le_of_ble_eq_true rfl | (simp only [wrap_u8, IntKind.wrap_i64, IntKind.wrap_i32, wrap_u32', wrap_u64', InI]; (repeat' refine And.intro ?_ ?_) <;> omega) | ((repeat' refine And.intro ?_ ?_) <;> first | omega | rfl | exact Nat.le_refl _ | exact Nat.le_of_ble_eq_true rfl | exact bytesF_one _) | (simp_all; done) | (simp_all; omega))) ?_
    | refine e_hit rfl ?_ | refine e_miss rfl ?_
    | refine ⟨by kernel_rfl, ?_⟩ | refine x_end rfl ?_ | refine r_call (f := 99) rfl rfl Tryd.call99 rfl c1 ?_ | ((with_reducible refine c_grd ?_); (fail_if_success (refine c_lit true rfl rfl rfl ?_)); (fail_if_success (refine c_lit false rfl rfl rfl ?_)); refine c_split rfl rfl (fun _ => ?_) (fun _ => ?_)))
  · rw [hR (), if_pos ((L0 ()).2 ((hz ()).1 (by omega)))]
    rfl
  · rename_i h1 h2
    have hs1 : sat s i 48 := ⟨hi2 (by omega), h2⟩
    rw [L1 hs1]
    exact ⟨(), by simp, ⟨rfl, rfl, rfl, rfl, rfl, trivial⟩, ⟨rfl, trivial⟩, rfl, by rw [hX]; intro k hk; cases hk⟩
  · rename_i h1 h2
    have hs1 : ¬ sat s i 48 := fun h => h2 h.2
    have h3 : ¬ dgT s i = [] := fun h => h1 (by rw [h]; simp)
    rw [L2 hs1]
    exact ⟨(), h3, ⟨rfl, rfl, rfl, rfl, rfl, trivial⟩, ⟨rfl, trivial⟩, rfl, by rw [hX]; intro k hk; cases hk⟩
  clear L0 hz c1 L1 L2 hl hi2
  intro _ hw
  replace hR := fun _ : Unit => (hR ()).trans (if_neg hw)
  dsimp only at hR
  have hj := whN_le hi
  have lw : (whN s i).1.length ≤ 1048577 := by
    have := dgT_len s i
    unfold whN
    split <;> dsimp only [List.length_cons, List.length_nil] <;> omega
  have hcut := fun _ : Unit => whN_cut s i
  have hij : i ≤ (whN s i).2 := by
    unfold whN
    split <;> dsimp only <;> omega
  generalize whN s i = W at hR hw hj lw hcut hij ⊢
  obtain ⟨w, j⟩ := W
  dsimp only at hR hw hj lw hcut hij ⊢
  clear hw
  have hl := dgT_len s (j + 1)
  have c2 := fun h : sat s j 46 => rdigits_ctr s (j + 1) hs h.1
  have L1 := fun h h2 => frN_pos (s := s) (i := j) h h2
  have L2 := fun h => frN_neg (s := s) (i := j) h
  have hz : (dgT s (j + 1)).length = 0 ↔ dgT s (j + 1) = [] := List.length_eq_zero_iff
  have hz := fun _ : Unit => hz
  have hcf := fun _ : Unit => dgT_cut s (j + 1)
  have ms : j < s.length → at' s j = 46 → sat s j 46 := fun h h2 => ⟨h, h2⟩
  repeat' (first
    | refine r_mid 13 hL (fun _ : Unit => [(0, .s s), (2, .pv 2 0), (5, .i .i64 (frN s j).2), (6, .b (decide (sat s 0 45))), (8, .s (w ++ (frN s j).1)), (9, .i .i64 (-((frN s j).1.length : Int)))]) (fun _ => [(2, .var [.b false, .s [], .i .i64 0])]) (fun _ => True) ?_ ?_
    | with_reducible refine t_seq ?_ | with_reducible refine t_region ?_ | with_reducible refine c_nil ?_ | with_reducible refine n_then ?_
    | with_reducible refine t_ret ?_ | with_reducible refine t_skip ?_ | with_reducible refine t_exit ?_ | with_reducible refine t_block ?_
    | with_reducible refine n_block ?_ | with_reducible refine e_then ?_ | with_reducible refine x_then ?_ | with_reducible refine x_block ?_ | with_reducible refine t_draw ?_
    | refine r_val rfl rfl True.intro ?_ | refine r_gskip rfl rfl rfl ?_ | refine r_gskip2 rfl rfl rfl ?_ | refine r_gval rfl rfl rfl rfl True.intro ?_
    | refine t_true rfl ?_ | refine t_false rfl ?_
    | ((first | refine t_cond_d rfl (fun _ => ?_) (fun _ => ?_) | refine t_cond_i rfl (fun _ => ?_) (fun _ => ?_) | refine t_cond_j rfl (fun _ => ?_) (fun _ => ?_) | refine t_cond_s rfl (fun _ => ?_) (fun _ => ?_) | refine t_cond_n rfl (fun _ => ?_) (fun _ => ?_) | refine t_cond rfl (fun _ => ?_) (fun _ => ?_) | refine c_split_d rfl rfl (fun _ => ?_) (fun _ => ?_) | refine c_split_i rfl rfl (fun _ => ?_) (fun _ => ?_) | refine c_split_j rfl rfl (fun _ => ?_) (fun _ => ?_) | refine c_split_s rfl rfl (fun _ => ?_) (fun _ => ?_) | refine c_split_n rfl rfl (fun _ => ?_) (fun _ => ?_)) <;> try (first | (rename_i hz; exact Bool.noConfusion (show true = false from hz)) | (rename_i hz; exact Bool.noConfusion (show false = true from hz)) | (exfalso; omega)))
    | refine r_val rfl rfl (by (first | (simp only [List.length_append, List.length_drop, List.length_take]; omega) | omega | exact Nat.le_of_ble_eq_true rfl | (simp only [wrap_u8, IntKind.wrap_i64, IntKind.wrap_i32, wrap_u32', wrap_u64', InI]; (repeat' refine And.intro ?_ ?_) <;> omega) | ((repeat' refine And.intro ?_ ?_) <;> first | omega | rfl | exact Nat.le_refl _ | exact Nat.le_of_ble_eq_true rfl | exact bytesF_one _) | (simp_all; done) | (simp_all; omega))) ?_ | refine r_gval rfl rfl rfl rfl (by (first | (simp only [List.length_append, List.length_drop, List.length_take]; omega) | omega | exact Nat.le_of_ble_eq_true rfl | (simp only [wrap_u8, IntKind.wrap_i64, IntKind.wrap_i32, wrap_u32', wrap_u64', InI]; (repeat' refine And.intro ?_ ?_) <;> omega) | ((repeat' refine And.intro ?_ ?_) <;> first | omega | rfl | exact Nat.le_refl _ | exact Nat.le_of_ble_eq_true rfl | exact bytesF_one _) | (simp_all; done) | (simp_all; omega))) ?_
    | refine r_obj rfl rfl (by (first | (simp only [List.length_append, List.length_drop, List.length_take]; omega) | omega | exact Nat.le_of_ble_eq_true rfl | (simp only [wrap_u8, IntKind.wrap_i64, IntKind.wrap_i32, wrap_u32', wrap_u64', InI]; (repeat' refine And.intro ?_ ?_) <;> omega) | ((repeat' refine And.intro ?_ ?_) <;> first | omega | rfl | exact Nat.le_refl _ | exact Nat.le_of_ble_eq_true rfl | exact bytesF_one _) | (simp_all; done) | (simp_all; omega))) ?_ | refine r_sto rfl (by (first | (simp only [List.length_append, List.length_drop, List.length_take]; omega) | omega | exact Nat.le_of_ble_eq_true rfl | (simp only [wrap_u8, IntKind.wrap_i64, IntKind.wrap_i32, wrap_u32', wrap_u64', InI]; (repeat' refine And.intro ?_ ?_) <;> omega) | ((repeat' refine And.intro ?_ ?_) <;> first | omega | rfl | exact Nat.le_refl _ | exact Nat.le_of_ble_eq_true rfl | exact bytesF_one _) | (simp_all; done) | (simp_all; omega))) ?_ | refine r_gobj rfl rfl rfl rfl (by (first | (simp only [List.length_append, List.length_drop, List.length_take]; omega) | omega | exact Nat.le_of_ble_eq_true rfl | (simp only [wrap_u8, IntKind.wrap_i64, IntKind.wrap_i32, wrap_u32', wrap_u64', InI]; (repeat' refine And.intro ?_ ?_) <;> omega) | ((repeat' refine And.intro ?_ ?_) <;> first | omega | rfl | exact Nat.le_refl _ | exact Nat.le_of_ble_eq_true rfl | exact bytesF_one _) | (simp_all; done) | (simp_all; omega))) ?_
    | refine e_hit rfl ?_ | refine e_miss rfl ?_
    | refine ⟨by kernel_rfl, ?_⟩ | refine r_call (f := 99) rfl rfl Tryd.call99 rfl (c2 (ms (by omega) ‹_›)) ?_ | refine r_gcall (f := 99) rfl rfl rfl rfl Tryd.call99 rfl (c2 (ms (by omega) ‹_›)) ?_ | ((with_reducible refine c_grd ?_); (fail_if_success (refine c_lit true rfl rfl rfl ?_)); (fail_if_success (refine c_lit false rfl rfl rfl ?_)); refine c_split rfl rfl (fun _ => ?_) (fun _ => ?_)))
  · rename_i h1 h2 h3
    rw [L1 (ms (by omega) h2) (fun h => by rw [h] at h3; simp at h3)]
    exact ⟨(), trivial, ⟨rfl, rfl, rfl, rfl, congrArg D.s (by simp only [Int.toNat_natCast, show ((j : Int) + 1).toNat = j + 1 by omega]; rw [hcut (), hcf ()]), congrArg (D.i .i64) (by dsimp only; omega), trivial⟩, ⟨rfl, trivial⟩, rfl, by rw [hX]; intro k hk; cases hk⟩
  · rename_i h1 h2 h3
    rw [L2 (.inr ((hz ()).1 (by omega)))]
    exact ⟨(), trivial, ⟨rfl, rfl, rfl, rfl, congrArg D.s (by simp only [Int.toNat_natCast]; rw [hcut ()]; simp), rfl, trivial⟩, ⟨rfl, trivial⟩, rfl, by rw [hX]; intro k hk; cases hk⟩
  · rename_i h1 h2
    rw [L2 (.inl fun h => h2 h.2)]
    exact ⟨(), trivial, ⟨rfl, rfl, rfl, rfl, congrArg D.s (by simp only [Int.toNat_natCast]; rw [hcut ()]; simp), rfl, trivial⟩, ⟨rfl, trivial⟩, rfl, by rw [hX]; intro k hk; cases hk⟩
  · rename_i h1
    rw [L2 (.inl fun h => h1 (by have := h.1; omega))]
    exact ⟨(), trivial, ⟨rfl, rfl, rfl, rfl, congrArg D.s (by simp only [Int.toNat_natCast]; rw [hcut ()]; simp), rfl, trivial⟩, ⟨rfl, trivial⟩, rfl, by rw [hX]; intro k hk; cases hk⟩
  clear c2 L1 L2 hz hcf ms hcut hij hl
  intro _ _
  have hk := frN_le hj
  have lf : (frN s j).1.length ≤ 1048577 := by
    have := dgT_len s (j + 1)
    unfold frN
    split <;> dsimp only [List.length_cons, List.length_nil] <;> omega
  generalize frN s j = W at hR hk lf ⊢
  obtain ⟨f, k⟩ := W
  dsimp only at hR hk lf ⊢
  have la : (w ++ f).length ≤ 2097154 := by rw [List.length_append]; omega
  generalize w ++ f = al at hR la ⊢
  have L1 : (sat s k 101 ∨ sat s k 69) → ¬ (dgT s (sgN s (k + 1))).length = 0 → exN powR s k = (if sat s (k + 1) 45 then -powR (dgT s (sgN s (k + 1))) else powR (dgT s (sgN s (k + 1))), sgN s (k + 1) + (dgT s (sgN s (k + 1))).length) := fun h h2 => exN_pos h (fun h3 => h2 (by rw [h3]; rfl))
  have L2 : (dgT s (sgN s (k + 1))).length = 0 → exN powR s k = (0, k) := fun h => exN_neg (.inr (List.length_eq_zero_iff.1 h))
  have L3 := fun h => exN_neg (s := s) (i := k) (pw := powR) (.inl h)
  have hp0 : k < s.length → sgN s (k + 1) ≤ s.length ∧ k + 1 ≤ sgN s (k + 1) := fun h => ⟨sgN_le (by omega), by unfold sgN; split <;> omega⟩
  have hx0 := fun _ : Unit => (pow_eq (dgT s (sgN s (k + 1))) (dgT_digit _ _))
  have bE : (k : Int) < s.length → ∀ c, (at' s k == c) = decide (sat s k c) := fun h c => by
    rw [Bool.eq_iff_iff, beq_iff_eq, decide_eq_true_iff]
    exact ⟨fun h2 => ⟨by omega, h2⟩, fun h2 => h2.2⟩
  have bF : (k : Int) + 1 < s.length → ∀ c, (at' s ((k : Int) + 1) == c) = decide (sat s (k + 1) c) := fun h c => by
    rw [Bool.eq_iff_iff, beq_iff_eq, decide_eq_true_iff]
    exact ⟨fun h2 => ⟨by omega, h2⟩, fun h2 => h2.2⟩
  have sN : ∀ {c : Int}, ¬ (k : Int) < s.length → ¬ sat s k c := fun h h2 => h (by have := h2.1; omega)
  have sM : ∀ {c : Int}, ¬ (k : Int) + 1 < s.length → ¬ sat s (k + 1) c := fun h h2 => h (by have := h2.1; omega)
  repeat' (first
    | refine r_mid 18 hL (fun _ : Unit => [(0, .s s), (2, .pv 2 0), (5, .i .i64 (exN powR s k).2), (6, .b (decide (sat s 0 45))), (8, .s al), (9, .i .i64 ((exN powR s k).1 - f.length))]) (fun _ => [(2, .var [.b false, .s [], .i .i64 0])]) (fun _ => True) ?_ ?_ | refine r_midr 18 hL (fun _ : Unit => [(0, .s s), (2, .pv 2 0), (5, .i .i64 k), (6, .b (decide (sat s 0 45))), (8, .s al), (9, .i .i64 (-(f.length : Int))), (93, .b (decide (sat s k 101 ∨ sat s k 69)))]) (fun _ => [(2, .var [.b false, .s [], .i .i64 0])]) (fun _ => True) ?_ ?_
    | with_reducible refine t_seq ?_ | with_reducible refine t_region ?_ | with_reducible refine c_nil ?_ | with_reducible refine n_then ?_
    | with_reducible refine t_ret ?_ | with_reducible refine t_skip ?_ | with_reducible refine t_exit ?_ | with_reducible refine t_block ?_
    | with_reducible refine n_block ?_ | with_reducible refine e_then ?_ | with_reducible refine x_then ?_ | with_reducible refine x_block ?_ | with_reducible refine t_draw ?_
    | refine r_val rfl rfl True.intro ?_ | refine r_gskip rfl rfl rfl ?_ | refine r_gskip2 rfl rfl rfl ?_ | refine r_gval rfl rfl rfl rfl True.intro ?_
    | refine t_true rfl ?_ | refine t_false rfl ?_
    | ((first | refine t_cond_d rfl (fun _ => ?_) (fun _ => ?_) | refine t_cond_i rfl (fun _ => ?_) (fun _ => ?_) | refine t_cond_j rfl (fun _ => ?_) (fun _ => ?_) | refine t_cond_s rfl (fun _ => ?_) (fun _ => ?_) | refine t_cond_n rfl (fun _ => ?_) (fun _ => ?_) | refine t_cond rfl (fun _ => ?_) (fun _ => ?_) | refine c_split_d rfl rfl (fun _ => ?_) (fun _ => ?_) | refine c_split_i rfl rfl (fun _ => ?_) (fun _ => ?_) | refine c_split_j rfl rfl (fun _ => ?_) (fun _ => ?_) | refine c_split_s rfl rfl (fun _ => ?_) (fun _ => ?_) | refine c_split_n rfl rfl (fun _ => ?_) (fun _ => ?_)) <;> try (first | (rename_i hz; exact Bool.noConfusion (show true = false from hz)) | (rename_i hz; exact Bool.noConfusion (show false = true from hz)) | (exfalso; omega)))
    | refine r_val rfl rfl (by (first | (simp only [List.length_append, List.length_drop, List.length_take]; omega) | omega | exact Nat.le_of_ble_eq_true rfl | (simp only [wrap_u8, IntKind.wrap_i64, IntKind.wrap_i32, wrap_u32', wrap_u64', InI]; (repeat' refine And.intro ?_ ?_) <;> omega) | ((repeat' refine And.intro ?_ ?_) <;> first | omega | rfl | exact Nat.le_refl _ | exact Nat.le_of_ble_eq_true rfl | exact bytesF_one _) | (simp_all; done) | (simp_all; omega))) ?_ | refine r_gval rfl rfl rfl rfl (by (first | (simp only [List.length_append, List.length_drop, List.length_take]; omega) | omega | exact Nat.le_of_ble_eq_true rfl | (simp only [wrap_u8, IntKind.wrap_i64, IntKind.wrap_i32, wrap_u32', wrap_u64', InI]; (repeat' refine And.intro ?_ ?_) <;> omega) | ((repeat' refine And.intro ?_ ?_) <;> first | omega | rfl | exact Nat.le_refl _ | exact Nat.le_of_ble_eq_true rfl | exact bytesF_one _) | (simp_all; done) | (simp_all; omega))) ?_
    | refine r_obj rfl rfl (by (first | (simp only [List.length_append, List.length_drop, List.length_take]; omega) | omega | exact Nat.le_of_ble_eq_true rfl | (simp only [wrap_u8, IntKind.wrap_i64, IntKind.wrap_i32, wrap_u32', wrap_u64', InI]; (repeat' refine And.intro ?_ ?_) <;> omega) | ((repeat' refine And.intro ?_ ?_) <;> first | omega | rfl | exact Nat.le_refl _ | exact Nat.le_of_ble_eq_true rfl | exact bytesF_one _) | (simp_all; done) | (simp_all; omega))) ?_ | refine r_sto rfl (by (first | (simp only [List.length_append, List.length_drop, List.length_take]; omega) | omega | exact Nat.le_of_ble_eq_true rfl | (simp only [wrap_u8, IntKind.wrap_i64, IntKind.wrap_i32, wrap_u32', wrap_u64', InI]; (repeat' refine And.intro ?_ ?_) <;> omega) | ((repeat' refine And.intro ?_ ?_) <;> first | omega | rfl | exact Nat.le_refl _ | exact Nat.le_of_ble_eq_true rfl | exact bytesF_one _) | (simp_all; done) | (simp_all; omega))) ?_ | refine r_gobj rfl rfl rfl rfl (by (first | (simp only [List.length_append, List.length_drop, List.length_take]; omega) | omega | exact Nat.le_of_ble_eq_true rfl | (simp only [wrap_u8, IntKind.wrap_i64, IntKind.wrap_i32, wrap_u32', wrap_u64', InI]; (repeat' refine And.intro ?_ ?_) <;> omega) | ((repeat' refine And.intro ?_ ?_) <;> first | omega | rfl | exact Nat.le_refl _ | exact Nat.le_of_ble_eq_true rfl | exact bytesF_one _) | (simp_all; done) | (simp_all; omega))) ?_
    | refine e_hit rfl ?_ | refine e_miss rfl ?_
    | refine ⟨by kernel_rfl, ?_⟩ | ((with_reducible refine c_grd ?_); (fail_if_success (refine c_lit true rfl rfl rfl ?_)); (fail_if_success (refine c_lit false rfl rfl rfl ?_)); refine c_split rfl rfl (fun _ => ?_) (fun _ => ?_)))
  · rename_i h1 h2
    exact ⟨(), trivial, ⟨rfl, rfl, rfl, rfl, rfl, rfl, congrArg D.b (decide_eq_true (.inl ⟨by omega, h2⟩)).symm, trivial⟩, ⟨rfl, trivial⟩, rfl, by rw [hX]; intro k hk; cases hk⟩
  · rename_i h1 h2
    exact ⟨(), trivial, ⟨rfl, rfl, rfl, rfl, rfl, rfl, congrArg D.b (by rw [bE h1, decide_eq_decide]; exact ⟨.inr, fun h => h.elim (fun h => absurd h.2 h2) id⟩), trivial⟩, ⟨rfl, trivial⟩, rfl, by rw [hX]; intro k hk; cases hk⟩
  · rename_i h1
    exact ⟨(), trivial, ⟨rfl, rfl, rfl, rfl, rfl, rfl, congrArg D.b (decide_eq_false (fun h => h.elim (sN h1) (sN h1))).symm, trivial⟩, ⟨rfl, trivial⟩, rfl, by rw [hX]; intro k hk; cases hk⟩
  clear bE sN
  intro _ _
  repeat' (first
    | refine r_mid 20 hL (fun _ : Unit => [(0, .s s), (2, .pv 2 0), (5, .i .i64 k), (6, .b (decide (sat s 0 45))), (8, .s al), (9, .i .i64 (-(f.length : Int))), (10, .i .i64 (sgN s (k + 1)))]) (fun _ => [(2, .var [.b false, .s [], .i .i64 0])]) (fun _ => True) ?_ ?_ | refine r_midr 20 hL (fun _ : Unit => [(0, .s s), (2, .pv 2 0), (5, .i .i64 k), (6, .b (decide (sat s 0 45))), (8, .s al), (9, .i .i64 (-(f.length : Int))), (10, .i .i64 ((k : Int) + 1)), (111, .b (decide (sat s (k + 1) 43 ∨ sat s (k + 1) 45)))]) (fun _ => [(2, .var [.b false, .s [], .i .i64 0])]) (fun _ => True) ?_ ?_
    | with_reducible refine t_seq ?_ | with_reducible refine t_region ?_ | with_reducible refine c_nil ?_ | with_reducible refine n_then ?_
    | with_reducible refine t_ret ?_ | with_reducible refine t_skip ?_ | with_reducible refine t_exit ?_ | with_reducible refine t_block ?_
    | with_reducible refine n_block ?_ | with_reducible refine e_then ?_ | with_reducible refine x_then ?_ | with_reducible refine x_block ?_ | with_reducible refine t_draw ?_
    | refine r_val rfl rfl True.intro ?_ | refine r_gskip rfl rfl rfl ?_ | refine r_gskip2 rfl rfl rfl ?_ | refine r_gval rfl rfl rfl rfl True.intro ?_
    | refine t_true rfl ?_ | refine t_false rfl ?_
    | ((first | refine t_cond_d rfl (fun _ => ?_) (fun _ => ?_) | refine t_cond_i rfl (fun _ => ?_) (fun _ => ?_) | refine t_cond_j rfl (fun _ => ?_) (fun _ => ?_) | refine t_cond_s rfl (fun _ => ?_) (fun _ => ?_) | refine t_cond_n rfl (fun _ => ?_) (fun _ => ?_) | refine t_cond rfl (fun _ => ?_) (fun _ => ?_) | refine c_split_d rfl rfl (fun _ => ?_) (fun _ => ?_) | refine c_split_i rfl rfl (fun _ => ?_) (fun _ => ?_) | refine c_split_j rfl rfl (fun _ => ?_) (fun _ => ?_) | refine c_split_s rfl rfl (fun _ => ?_) (fun _ => ?_) | refine c_split_n rfl rfl (fun _ => ?_) (fun _ => ?_)) <;> try (first | (rename_i hz; exact Bool.noConfusion (show true = false from hz)) | (rename_i hz; exact Bool.noConfusion (show false = true from hz)) | (exfalso; omega)))
    | refine r_val rfl rfl (by (first | (simp only [List.length_append, List.length_drop, List.length_take]; omega) | omega | exact Nat.le_of_ble_eq_true rfl | (simp only [wrap_u8, IntKind.wrap_i64, IntKind.wrap_i32, wrap_u32', wrap_u64', InI]; (repeat' refine And.intro ?_ ?_) <;> omega) | ((repeat' refine And.intro ?_ ?_) <;> first | omega | rfl | exact Nat.le_refl _ | exact Nat.le_of_ble_eq_true rfl | exact bytesF_one _) | (simp_all; done) | (simp_all; omega))) ?_ | refine r_gval rfl rfl rfl rfl (by (first | (simp only [List.length_append, List.length_drop, List.length_take]; omega) | omega | exact Nat.le_of_ble_eq_true rfl | (simp only [wrap_u8, IntKind.wrap_i64, IntKind.wrap_i32, wrap_u32', wrap_u64', InI]; (repeat' refine And.intro ?_ ?_) <;> omega) | ((repeat' refine And.intro ?_ ?_) <;> first | omega | rfl | exact Nat.le_refl _ | exact Nat.le_of_ble_eq_true rfl | exact bytesF_one _) | (simp_all; done) | (simp_all; omega))) ?_
    | refine r_obj rfl rfl (by (first | (simp only [List.length_append, List.length_drop, List.length_take]; omega) | omega | exact Nat.le_of_ble_eq_true rfl | (simp only [wrap_u8, IntKind.wrap_i64, IntKind.wrap_i32, wrap_u32', wrap_u64', InI]; (repeat' refine And.intro ?_ ?_) <;> omega) | ((repeat' refine And.intro ?_ ?_) <;> first | omega | rfl | exact Nat.le_refl _ | exact Nat.le_of_ble_eq_true rfl | exact bytesF_one _) | (simp_all; done) | (simp_all; omega))) ?_ | refine r_sto rfl (by (first | (simp only [List.length_append, List.length_drop, List.length_take]; omega) | omega | exact Nat.le_of_ble_eq_true rfl | (simp only [wrap_u8, IntKind.wrap_i64, IntKind.wrap_i32, wrap_u32', wrap_u64', InI]; (repeat' refine And.intro ?_ ?_) <;> omega) | ((repeat' refine And.intro ?_ ?_) <;> first | omega | rfl | exact Nat.le_refl _ | exact Nat.le_of_ble_eq_true rfl | exact bytesF_one _) | (simp_all; done) | (simp_all; omega))) ?_ | refine r_gobj rfl rfl rfl rfl (by (first | (simp only [List.length_append, List.length_drop, List.length_take]; omega) | omega | exact Nat.le_of_ble_eq_true rfl | (simp only [wrap_u8, IntKind.wrap_i64, IntKind.wrap_i32, wrap_u32', wrap_u64', InI]; (repeat' refine And.intro ?_ ?_) <;> omega) | ((repeat' refine And.intro ?_ ?_) <;> first | omega | rfl | exact Nat.le_refl _ | exact Nat.le_of_ble_eq_true rfl | exact bytesF_one _) | (simp_all; done) | (simp_all; omega))) ?_
    | refine e_hit rfl ?_ | refine e_miss rfl ?_
    | refine ⟨by kernel_rfl, ?_⟩ | ((with_reducible refine c_grd ?_); (fail_if_success (refine c_lit true rfl rfl rfl ?_)); (fail_if_success (refine c_lit false rfl rfl rfl ?_)); refine c_split rfl rfl (fun _ => ?_) (fun _ => ?_)))
  · rename_i h1 h2
    exact ⟨(), trivial, ⟨rfl, rfl, rfl, rfl, rfl, rfl, rfl, congrArg D.b (decide_eq_true (.inl ⟨by omega, h2⟩)).symm, trivial⟩, ⟨rfl, trivial⟩, rfl, by rw [hX]; intro k hk; cases hk⟩
  · rename_i h1 h2
    exact ⟨(), trivial, ⟨rfl, rfl, rfl, rfl, rfl, rfl, rfl, congrArg D.b (by rw [bF h1, decide_eq_decide]; exact ⟨.inr, fun h => h.elim (fun h => absurd h.2 h2) id⟩), trivial⟩, ⟨rfl, trivial⟩, rfl, by rw [hX]; intro k hk; cases hk⟩
  · rename_i h1
    exact ⟨(), trivial, ⟨rfl, rfl, rfl, rfl, rfl, rfl, rfl, congrArg D.b (decide_eq_false (fun h => h.elim (sM h1) (sM h1))).symm, trivial⟩, ⟨rfl, trivial⟩, rfl, by rw [hX]; intro k hk; cases hk⟩
  · intro _ _
    have g1 : (sat s (k + 1) 43 ∨ sat s (k + 1) 45) → sgN s (k + 1) = k + 1 + 1 := fun h => if_pos h
    have g2 : ¬ (sat s (k + 1) 43 ∨ sat s (k + 1) 45) → sgN s (k + 1) = k + 1 := fun h => if_neg h
    have hb : (sat s k 101 ∨ sat s k 69) → (k : Int) < s.length := fun h => by
      rcases h with h | h
      · have := h.1
        omega
      · have := h.1
        omega
    have hb := hb ‹_›
    repeat' (first
      | with_reducible refine t_seq ?_ | with_reducible refine t_region ?_ | with_reducible refine c_nil ?_ | with_reducible refine n_then ?_
      | with_reducible refine t_ret ?_ | with_reducible refine t_skip ?_ | with_reducible refine t_exit ?_ | with_reducible refine t_block ?_
      | with_reducible refine n_block ?_ | with_reducible refine e_then ?_ | with_reducible refine x_then ?_ | with_reducible refine x_block ?_ | with_reducible refine t_draw ?_
      | refine r_val rfl rfl True.intro ?_ | refine r_gskip rfl rfl rfl ?_ | refine r_gskip2 rfl rfl rfl ?_ | refine r_gval rfl rfl rfl rfl True.intro ?_
      | refine t_true rfl ?_ | refine t_false rfl ?_
      | ((first | refine t_cond_d rfl (fun _ => ?_) (fun _ => ?_) | refine t_cond_i rfl (fun _ => ?_) (fun _ => ?_) | refine t_cond_j rfl (fun _ => ?_) (fun _ => ?_) | refine t_cond_s rfl (fun _ => ?_) (fun _ => ?_) | refine t_cond_n rfl (fun _ => ?_) (fun _ => ?_) | refine t_cond rfl (fun _ => ?_) (fun _ => ?_) | refine c_split_d rfl rfl (fun _ => ?_) (fun _ => ?_) | refine c_split_i rfl rfl (fun _ => ?_) (fun _ => ?_) | refine c_split_j rfl rfl (fun _ => ?_) (fun _ => ?_) | refine c_split_s rfl rfl (fun _ => ?_) (fun _ => ?_) | refine c_split_n rfl rfl (fun _ => ?_) (fun _ => ?_)) <;> try (first | contradiction | (exfalso; omega)))
      | refine r_val rfl rfl (by (first | omega | exact Nat.le_of_ble_eq_true rfl | (simp only [wrap_u8, IntKind.wrap_i64, IntKind.wrap_i32, wrap_u32', wrap_u64', InI]; (repeat' refine And.intro ?_ ?_) <;> omega) | ((repeat' refine And.intro ?_ ?_) <;> first | omega | rfl | exact Nat.le_refl _ | exact Nat.le_of_ble_eq_true rfl | exact bytesF_one _) | (simp_all; done) | (simp_all; omega))) ?_ | refine r_gval rfl rfl rfl rfl (by (first | omega | exact Nat.le_of_ble_eq_true rfl | (simp only [wrap_u8, IntKind.wrap_i64, IntKind.wrap_i32, wrap_u32', wrap_u64', InI]; (repeat' refine And.intro ?_ ?_) <;> omega) | ((repeat' refine And.intro ?_ ?_) <;> first | omega | rfl | exact Nat.le_refl _ | exact Nat.le_of_ble_eq_true rfl | exact bytesF_one _) | (simp_all; done) | (simp_all; omega))) ?_
      | refine r_obj rfl rfl (by (first | omega | exact Nat.le_of_ble_eq_true rfl | (simp only [wrap_u8, IntKind.wrap_i64, IntKind.wrap_i32, wrap_u32', wrap_u64', InI]; (repeat' refine And.intro ?_ ?_) <;> omega) | ((repeat' refine And.intro ?_ ?_) <;> first | omega | rfl | exact Nat.le_refl _ | exact Nat.le_of_ble_eq_true rfl | exact bytesF_one _) | (simp_all; done) | (simp_all; omega))) ?_ | refine r_sto rfl (by (first | omega | exact Nat.le_of_ble_eq_true rfl | (simp only [wrap_u8, IntKind.wrap_i64, IntKind.wrap_i32, wrap_u32', wrap_u64', InI]; (repeat' refine And.intro ?_ ?_) <;> omega) | ((repeat' refine And.intro ?_ ?_) <;> first | omega | rfl | exact Nat.le_refl _ | exact Nat.le_of_ble_eq_true rfl | exact bytesF_one _) | (simp_all; done) | (simp_all; omega))) ?_ | refine r_gobj rfl rfl rfl rfl (by (first | omega | exact Nat.le_of_ble_eq_true rfl | (simp only [wrap_u8, IntKind.wrap_i64, IntKind.wrap_i32, wrap_u32', wrap_u64', InI]; (repeat' refine And.intro ?_ ?_) <;> omega) | ((repeat' refine And.intro ?_ ?_) <;> first | omega | rfl | exact Nat.le_refl _ | exact Nat.le_of_ble_eq_true rfl | exact bytesF_one _) | (simp_all; done) | (simp_all; omega))) ?_
      | refine e_hit rfl ?_ | refine e_miss rfl ?_
      | refine ⟨by kernel_rfl, ?_⟩ | ((with_reducible refine c_grd ?_); (fail_if_success (refine c_lit true rfl rfl rfl ?_)); (fail_if_success (refine c_lit false rfl rfl rfl ?_)); refine c_split rfl rfl (fun _ => ?_) (fun _ => ?_)))
    · rw [g1 ‹_›]
      exact ⟨(), trivial, ⟨rfl, rfl, rfl, rfl, rfl, rfl, rfl, trivial⟩, ⟨rfl, trivial⟩, rfl, by rw [hX]; intro k hk; cases hk⟩
    · rw [g2 ‹_›]
      exact ⟨(), trivial, ⟨rfl, rfl, rfl, rfl, rfl, rfl, rfl, trivial⟩, ⟨rfl, trivial⟩, rfl, by rw [hX]; intro k hk; cases hk⟩
  · intro _ _
    rename_i he _ _
    have hb : k < s.length := by
      rcases he with h | h
      · exact h.1
      · exact h.1
    have hp1 := hp0 hb
    have hs45 : ∀ c, at' s ((k : Int) + 1) = c → k + 1 < s.length → sat s (k + 1) c := fun c h h2 => ⟨h2, h⟩
    generalize sgN s (k + 1) = p at hp1 L1 L2 hx0 ⊢
    have hl := dgT_len s p
    have c1 := rdigits_ctr s p hs hp1.1
    have hdg := dgT_digit s p
    have L1 := L1 he
    clear hR hp0 L3 bF sM he
    repeat' (first
      | with_reducible refine t_seq ?_ | with_reducible refine t_region ?_ | with_reducible refine c_nil ?_ | with_reducible refine n_then ?_
      | with_reducible refine t_ret ?_ | with_reducible refine t_skip ?_ | with_reducible refine t_exit ?_ | with_reducible refine t_block ?_
      | with_reducible refine n_block ?_ | with_reducible refine e_then ?_ | with_reducible refine x_then ?_ | with_reducible refine x_block ?_ | with_reducible refine t_draw ?_
      | refine r_val rfl rfl True.intro ?_ | refine r_gskip rfl rfl rfl ?_ | refine r_gskip2 rfl rfl rfl ?_ | refine r_gval rfl rfl rfl rfl True.intro ?_
      | refine t_true rfl ?_ | refine t_false rfl ?_
      | ((first | refine t_cond_d rfl (fun _ => ?_) (fun _ => ?_) | refine t_cond_i rfl (fun _ => ?_) (fun _ => ?_) | refine t_cond_j rfl (fun _ => ?_) (fun _ => ?_) | refine t_cond_s rfl (fun _ => ?_) (fun _ => ?_) | refine t_cond_n rfl (fun _ => ?_) (fun _ => ?_) | refine t_cond rfl (fun _ => ?_) (fun _ => ?_) | refine c_split_d rfl rfl (fun _ => ?_) (fun _ => ?_) | refine c_split_i rfl rfl (fun _ => ?_) (fun _ => ?_) | refine c_split_j rfl rfl (fun _ => ?_) (fun _ => ?_) | refine c_split_s rfl rfl (fun _ => ?_) (fun _ => ?_) | refine c_split_n rfl rfl (fun _ => ?_) (fun _ => ?_)) <;> try (first | contradiction | (exfalso; omega)))
      | refine r_val rfl rfl (by (first | omega | exact Nat.le_of_ble_eq_true rfl | (simp only [wrap_u8, IntKind.wrap_i64, IntKind.wrap_i32, wrap_u32', wrap_u64', InI]; (repeat' refine And.intro ?_ ?_) <;> omega) | ((repeat' refine And.intro ?_ ?_) <;> first | omega | rfl | exact Nat.le_refl _ | exact Nat.le_of_ble_eq_true rfl | exact bytesF_one _) | (simp_all; done) | (simp_all; omega))) ?_ | refine r_gval rfl rfl rfl rfl (by (first | omega | exact Nat.le_of_ble_eq_true rfl | (simp only [wrap_u8, IntKind.wrap_i64, IntKind.wrap_i32, wrap_u32', wrap_u64', InI]; (repeat' refine And.intro ?_ ?_) <;> omega) | ((repeat' refine And.intro ?_ ?_) <;> first | omega | rfl | exact Nat.le_refl _ | exact Nat.le_of_ble_eq_true rfl | exact bytesF_one _) | (simp_all; done) | (simp_all; omega))) ?_
      | refine r_obj rfl rfl (by (first | omega | exact Nat.le_of_ble_eq_true rfl | (simp only [wrap_u8, IntKind.wrap_i64, IntKind.wrap_i32, wrap_u32', wrap_u64', InI]; (repeat' refine And.intro ?_ ?_) <;> omega) | ((repeat' refine And.intro ?_ ?_) <;> first | omega | rfl | exact Nat.le_refl _ | exact Nat.le_of_ble_eq_true rfl | exact bytesF_one _) | (simp_all; done) | (simp_all; omega))) ?_ | refine r_sto rfl (by (first | omega | exact Nat.le_of_ble_eq_true rfl | (simp only [wrap_u8, IntKind.wrap_i64, IntKind.wrap_i32, wrap_u32', wrap_u64', InI]; (repeat' refine And.intro ?_ ?_) <;> omega) | ((repeat' refine And.intro ?_ ?_) <;> first | omega | rfl | exact Nat.le_refl _ | exact Nat.le_of_ble_eq_true rfl | exact bytesF_one _) | (simp_all; done) | (simp_all; omega))) ?_ | refine r_gobj rfl rfl rfl rfl (by (first | omega | exact Nat.le_of_ble_eq_true rfl | (simp only [wrap_u8, IntKind.wrap_i64, IntKind.wrap_i32, wrap_u32', wrap_u64', InI]; (repeat' refine And.intro ?_ ?_) <;> omega) | ((repeat' refine And.intro ?_ ?_) <;> first | omega | rfl | exact Nat.le_refl _ | exact Nat.le_of_ble_eq_true rfl | exact bytesF_one _) | (simp_all; done) | (simp_all; omega))) ?_
      | refine e_hit rfl ?_ | refine e_miss rfl ?_
      | refine ⟨by kernel_rfl, ?_⟩ | refine r_call (f := 99) rfl rfl Tryd.call99 rfl c1 ?_ | ((with_reducible refine c_grd ?_); (fail_if_success (refine c_lit true rfl rfl rfl ?_)); (fail_if_success (refine c_lit false rfl rfl rfl ?_)); refine c_split rfl rfl (fun _ => ?_) (fun _ => ?_)))
    clear c1
    refine T.loop hL (fun y : Nat × Int => [(0, .s s), (2, .pv 2 0), (5, .i .i64 k), (6, .b (decide (sat s 0 45))), (7, .i .i64 ((p + (dgT s p).length : Nat) : Int)), (8, .s al), (9, .i .i64 (-(f.length : Int))), (10, .i .i64 p), (11, .i .i64 y.2), (12, .i .i64 ((p + y.1 : Nat) : Int))]) (fun _ => [(2, .var [.b false, .s [], .i .i64 0])])
      (fun y => y.1 ≤ (dgT s p).length ∧ 0 ≤ y.2 ∧ y.2 < 20000000000 ∧ y.2 = powR ((dgT s p).take y.1)) (fun y => (dgT s p).length - y.1) (0, 0) ⟨Nat.zero_le _, by decide, by decide, rfl⟩ ⟨⟨rfl, rfl, rfl, rfl, rfl, rfl, rfl, rfl, rfl, rfl, trivial⟩, ⟨rfl, trivial⟩, rfl, by rw [hX]; intro k hk; cases hk⟩ ?_
    rintro ⟨q, n⟩ ⟨q1, q2, q3, q4⟩
    dsimp only at q1 q2 q3 q4 ⊢
    have hfin : ¬ q < (dgT s p).length ∨ ¬ n < 1000000000 → n = powR (dgT s p) := fun h => by
      rcases h with h | h
      · rw [q4, List.take_of_length_le (by omega)]
      · rw [powR_done (dgT s p) q (by rw [← q4]; omega), ← q4]
    have hdq : q < (dgT s p).length → 48 ≤ at' s ((p + q : Nat) : Int) ∧ at' s ((p + q : Nat) : Int) ≤ 57 := fun h => by
      have := isD_iff.1 (hdg ((dgT s p).getD q 0) (by simp [List.getD_eq_getElem?_getD, h]))
      rw [dgT_at s p q h] at this
      exact this
    have hsn : q < (dgT s p).length → n < 1000000000 → powR ((dgT s p).take (q + 1)) = 10 * n + at' s ((p + q : Nat) : Int) - 48 := fun h h2 => by
      rw [take_snoc _ q h, powR_snoc _ _ (by rw [← q4]; exact h2), ← q4, dgT_at s p q h]
      rfl
    have q4 := fun _ : Unit => q4
    have hdg := fun _ : Unit => hdg
    have hw : q < (dgT s p).length → IntKind.i64.wrap (at' s ((p + q : Nat) : Int)) = at' s ((p + q : Nat) : Int) := fun h => by
      have := hdq h
      rw [IntKind.wrap_i64]
      omega
    by_cases hq : q < (dgT s p).length
    · have hw := hw hq
      have hdq := hdq hq
      have hfin := fun h : ¬ n < 1000000000 => hfin (.inr h)
      repeat' (first
        | with_reducible refine t_seq ?_ | with_reducible refine t_region ?_ | with_reducible refine c_nil ?_ | with_reducible refine n_then ?_
        | with_reducible refine t_ret ?_ | with_reducible refine t_skip ?_ | with_reducible refine t_exit ?_ | with_reducible refine t_block ?_
        | with_reducible refine n_block ?_ | with_reducible refine e_then ?_ | with_reducible refine x_then ?_ | with_reducible refine x_block ?_ | with_reducible refine t_draw ?_
        | refine r_val rfl rfl True.intro ?_ | refine r_gskip rfl rfl rfl ?_ | refine r_gskip2 rfl rfl rfl ?_ | refine r_gval rfl rfl rfl rfl True.intro ?_
        | refine t_true rfl ?_ | refine t_false rfl ?_
        | ((first | refine t_cond_d rfl (fun _ => ?_) (fun _ => ?_) | refine t_cond_i rfl (fun _ => ?_) (fun _ => ?_) | refine t_cond_j rfl (fun _ => ?_) (fun _ => ?_) | refine t_cond_s rfl (fun _ => ?_) (fun _ => ?_) | refine t_cond_n rfl (fun _ => ?_) (fun _ => ?_) | refine t_cond rfl (fun _ => ?_) (fun _ => ?_) | refine c_split_d rfl rfl (fun _ => ?_) (fun _ => ?_) | refine c_split_i rfl rfl (fun _ => ?_) (fun _ => ?_) | refine c_split_j rfl rfl (fun _ => ?_) (fun _ => ?_) | refine c_split_s rfl rfl (fun _ => ?_) (fun _ => ?_) | refine c_split_n rfl rfl (fun _ => ?_) (fun _ => ?_)) <;> try (first | (rename_i hz; exact Bool.noConfusion (show true = false from hz)) | (rename_i hz; exact Bool.noConfusion (show false = true from hz)) | (exfalso; omega)))
        | refine r_val rfl rfl (by (first | (rw [hw]; (repeat' refine And.intro ?_ ?_) <;> omega) | omega | exact Nat.le_of_ble_eq_true rfl | (simp only [wrap_u8, IntKind.wrap_i64, IntKind.wrap_i32, wrap_u32', wrap_u64', InI]; (repeat' refine And.intro ?_ ?_) <;> omega) | ((repeat' refine And.intro ?_ ?_) <;> first | omega | rfl | exact Nat.le_refl _ | exact Nat.le_of_ble_eq_true rfl | exact bytesF_one _) | (simp_all; done) | (simp_all; omega))) ?_ | refine r_gval rfl rfl rfl rfl (by (first | (rw [hw]; (repeat' refine And.intro ?_ ?_) <;> omega) | omega | exact Nat.le_of_ble_eq_true rfl | (simp only [wrap_u8, IntKind.wrap_i64, IntKind.wrap_i32, wrap_u32', wrap_u64', InI]; (repeat' refine And.intro ?_ ?_) <;> omega) | ((repeat' refine And.intro ?_ ?_) <;> first | omega | rfl | exact Nat.le_refl _ | exact Nat.le_of_ble_eq_true rfl | exact bytesF_one _) | (simp_all; done) | (simp_all; omega))) ?_
        | refine r_obj rfl rfl (by (first | (rw [hw]; (repeat' refine And.intro ?_ ?_) <;> omega) | omega | exact Nat.le_of_ble_eq_true rfl | (simp only [wrap_u8, IntKind.wrap_i64, IntKind.wrap_i32, wrap_u32', wrap_u64', InI]; (repeat' refine And.intro ?_ ?_) <;> omega) | ((repeat' refine And.intro ?_ ?_) <;> first | omega | rfl | exact Nat.le_refl _ | exact Nat.le_of_ble_eq_true rfl | exact bytesF_one _) | (simp_all; done) | (simp_all; omega))) ?_ | refine r_sto rfl (by (first | (rw [hw]; (repeat' refine And.intro ?_ ?_) <;> omega) | omega | exact Nat.le_of_ble_eq_true rfl | (simp only [wrap_u8, IntKind.wrap_i64, IntKind.wrap_i32, wrap_u32', wrap_u64', InI]; (repeat' refine And.intro ?_ ?_) <;> omega) | ((repeat' refine And.intro ?_ ?_) <;> first | omega | rfl | exact Nat.le_refl _ | exact Nat.le_of_ble_eq_true rfl | exact bytesF_one _) | (simp_all; done) | (simp_all; omega))) ?_ | refine r_gobj rfl rfl rfl rfl (by (first | (rw [hw]; (repeat' refine And.intro ?_ ?_) <;> omega) | omega | exact Nat.le_of_ble_eq_true rfl | (simp only [wrap_u8, IntKind.wrap_i64, IntKind.wrap_i32, wrap_u32', wrap_u64', InI]; (repeat' refine And.intro ?_ ?_) <;> omega) | ((repeat' refine And.intro ?_ ?_) <;> first | omega | rfl | exact Nat.le_refl _ | exact Nat.le_of_ble_eq_true rfl | exact bytesF_one _) | (simp_all; done) | (simp_all; omega))) ?_
        | refine e_hit rfl ?_ | refine e_miss rfl ?_
        | refine ⟨by kernel_rfl, ?_⟩ | ((with_reducible refine c_grd ?_); (fail_if_success (refine c_lit true rfl rfl rfl ?_)); (fail_if_success (refine c_lit false rfl rfl rfl ?_)); refine c_split rfl rfl (fun _ => ?_) (fun _ => ?_)))
      · refine ⟨(q + 1, 10 * n + IntKind.i64.wrap (at' s ((p + q : Nat) : Int)) - 48), ⟨by dsimp only; omega, by dsimp only; omega, by dsimp only; omega, ?_⟩, by dsimp only; omega, ⟨rfl, rfl, rfl, rfl, rfl, rfl, rfl, rfl, rfl, rfl, trivial⟩, ⟨rfl, trivial⟩, rfl, by rw [hX]; intro k hk; cases hk⟩
        dsimp only
        rw [hw, hsn hq ‹_›]
      · rename_i h45
        rw [L1 (by omega), if_pos (hs45 45 h45 (by omega))]
        exact ⟨(), trivial, ⟨rfl, rfl, rfl, rfl, rfl, congrArg (D.i .i64) (by dsimp only; rw [← hfin (by assumption)]; omega), trivial⟩, ⟨rfl, trivial⟩, rfl, by rw [hX]; intro k hk; cases hk⟩
      · rename_i h45
        rw [L1 (by omega), if_neg (fun h => h45 h.2)]
        exact ⟨(), trivial, ⟨rfl, rfl, rfl, rfl, rfl, congrArg (D.i .i64) (by dsimp only; rw [← hfin (by assumption)]; omega), trivial⟩, ⟨rfl, trivial⟩, rfl, by rw [hX]; intro k hk; cases hk⟩
    ·
      clear hw hdq hsn
      have hfin := fun _ : Unit => hfin (.inl hq)
      repeat' (first
        | with_reducible refine t_seq ?_ | with_reducible refine t_region ?_ | with_reducible refine c_nil ?_ | with_reducible refine n_then ?_
        | with_reducible refine t_ret ?_ | with_reducible refine t_skip ?_ | with_reducible refine t_exit ?_ | with_reducible refine t_block ?_
        | with_reducible refine n_block ?_ | with_reducible refine e_then ?_ | with_reducible refine x_then ?_ | with_reducible refine x_block ?_ | with_reducible refine t_draw ?_
        | refine r_val rfl rfl True.intro ?_ | refine r_gskip rfl rfl rfl ?_ | refine r_gskip2 rfl rfl rfl ?_ | refine r_gval rfl rfl rfl rfl True.intro ?_
        | refine t_true rfl ?_ | refine t_false rfl ?_
        | ((first | refine t_cond_d rfl (fun _ => ?_) (fun _ => ?_) | refine t_cond_i rfl (fun _ => ?_) (fun _ => ?_) | refine t_cond_j rfl (fun _ => ?_) (fun _ => ?_) | refine t_cond_s rfl (fun _ => ?_) (fun _ => ?_) | refine t_cond_n rfl (fun _ => ?_) (fun _ => ?_) | refine t_cond rfl (fun _ => ?_) (fun _ => ?_) | refine c_split_d rfl rfl (fun _ => ?_) (fun _ => ?_) | refine c_split_i rfl rfl (fun _ => ?_) (fun _ => ?_) | refine c_split_j rfl rfl (fun _ => ?_) (fun _ => ?_) | refine c_split_s rfl rfl (fun _ => ?_) (fun _ => ?_) | refine c_split_n rfl rfl (fun _ => ?_) (fun _ => ?_)) <;> try (first | (rename_i hz; exact Bool.noConfusion (show true = false from hz)) | (rename_i hz; exact Bool.noConfusion (show false = true from hz)) | (exfalso; omega)))
        | refine r_val rfl rfl (by (first | omega | exact Nat.le_of_ble_eq_true rfl | (simp only [wrap_u8, IntKind.wrap_i64, IntKind.wrap_i32, wrap_u32', wrap_u64', InI]; (repeat' refine And.intro ?_ ?_) <;> omega) | ((repeat' refine And.intro ?_ ?_) <;> first | omega | rfl | exact Nat.le_refl _ | exact Nat.le_of_ble_eq_true rfl | exact bytesF_one _) | (simp_all; done) | (simp_all; omega))) ?_ | refine r_gval rfl rfl rfl rfl (by (first | omega | exact Nat.le_of_ble_eq_true rfl | (simp only [wrap_u8, IntKind.wrap_i64, IntKind.wrap_i32, wrap_u32', wrap_u64', InI]; (repeat' refine And.intro ?_ ?_) <;> omega) | ((repeat' refine And.intro ?_ ?_) <;> first | omega | rfl | exact Nat.le_refl _ | exact Nat.le_of_ble_eq_true rfl | exact bytesF_one _) | (simp_all; done) | (simp_all; omega))) ?_
        | refine r_obj rfl rfl (by (first | omega | exact Nat.le_of_ble_eq_true rfl | (simp only [wrap_u8, IntKind.wrap_i64, IntKind.wrap_i32, wrap_u32', wrap_u64', InI]; (repeat' refine And.intro ?_ ?_) <;> omega) | ((repeat' refine And.intro ?_ ?_) <;> first | omega | rfl | exact Nat.le_refl _ | exact Nat.le_of_ble_eq_true rfl | exact bytesF_one _) | (simp_all; done) | (simp_all; omega))) ?_ | refine r_sto rfl (by (first | omega | exact Nat.le_of_ble_eq_true rfl | (simp only [wrap_u8, IntKind.wrap_i64, IntKind.wrap_i32, wrap_u32', wrap_u64', InI]; (repeat' refine And.intro ?_ ?_) <;> omega) | ((repeat' refine And.intro ?_ ?_) <;> first | omega | rfl | exact Nat.le_refl _ | exact Nat.le_of_ble_eq_true rfl | exact bytesF_one _) | (simp_all; done) | (simp_all; omega))) ?_ | refine r_gobj rfl rfl rfl rfl (by (first | omega | exact Nat.le_of_ble_eq_true rfl | (simp only [wrap_u8, IntKind.wrap_i64, IntKind.wrap_i32, wrap_u32', wrap_u64', InI]; (repeat' refine And.intro ?_ ?_) <;> omega) | ((repeat' refine And.intro ?_ ?_) <;> first | omega | rfl | exact Nat.le_refl _ | exact Nat.le_of_ble_eq_true rfl | exact bytesF_one _) | (simp_all; done) | (simp_all; omega))) ?_
        | refine e_hit rfl ?_ | refine e_miss rfl ?_
        | refine ⟨by kernel_rfl, ?_⟩ | ((with_reducible refine c_grd ?_); (fail_if_success (refine c_lit true rfl rfl rfl ?_)); (fail_if_success (refine c_lit false rfl rfl rfl ?_)); refine c_split rfl rfl (fun _ => ?_) (fun _ => ?_)))
      · rename_i h45
        rw [L1 (by omega), if_pos (hs45 45 h45 (by omega))]
        exact ⟨(), trivial, ⟨rfl, rfl, rfl, rfl, rfl, congrArg (D.i .i64) (by dsimp only; rw [← hfin ()]; omega), trivial⟩, ⟨rfl, trivial⟩, rfl, by rw [hX]; intro k hk; cases hk⟩
      · rename_i h45
        rw [L1 (by omega), if_neg (fun h => h45 h.2)]
        exact ⟨(), trivial, ⟨rfl, rfl, rfl, rfl, rfl, congrArg (D.i .i64) (by dsimp only; rw [← hfin ()]; omega), trivial⟩, ⟨rfl, trivial⟩, rfl, by rw [hX]; intro k hk; cases hk⟩
      · rw [L2 (by omega)]
        exact ⟨(), trivial, ⟨rfl, rfl, rfl, rfl, rfl, congrArg (D.i .i64) (by dsimp only; omega), trivial⟩, ⟨rfl, trivial⟩, rfl, by rw [hX]; intro k hk; cases hk⟩
  · rename_i h1
    rw [L3 h1]
    exact ⟨(), trivial, ⟨rfl, rfl, rfl, rfl, rfl, congrArg (D.i .i64) (by dsimp only; omega), trivial⟩, ⟨rfl, trivial⟩, rfl, by rw [hX]; intro k hk; cases hk⟩
  intro _ _
  have hx : -20000000000 ≤ (exN powR s k).1 ∧ (exN powR s k).1 ≤ 20000000000 := by
    have hpr := powR_le (dgT s (sgN s (k + 1))) (dgT_digit _ _)
    unfold exN
    split
    · dsimp only
      split <;> omega
    · dsimp only
      omega
  generalize exN powR s k = W at hR hx ⊢
  obtain ⟨x, m⟩ := W
  dsimp only at hR hx ⊢
  have c1 := rnorm_ctr (decide (sat s 0 45)) al (x - f.length) (by omega) (by omega) (by omega)
  generalize normF (decide (sat s 0 45)) al (x - f.length) = W at hR c1
  obtain ⟨⟨n1, d1, e1⟩, err⟩ := W
  dsimp only at hR c1
  clear L1 L2 L3 hp0 hx0 bF sM
  repeat' (first
    | with_reducible refine t_seq ?_ | with_reducible refine t_region ?_ | with_reducible refine c_nil ?_ | with_reducible refine n_then ?_
    | with_reducible refine t_ret ?_ | with_reducible refine t_skip ?_ | with_reducible refine t_exit ?_ | with_reducible refine t_block ?_
    | with_reducible refine n_block ?_ | with_reducible refine e_then ?_ | with_reducible refine x_then ?_ | with_reducible refine x_block ?_ | with_reducible refine t_draw ?_
    | refine r_val rfl rfl True.intro ?_ | refine r_gskip rfl rfl rfl ?_ | refine r_gskip2 rfl rfl rfl ?_ | refine r_gval rfl rfl rfl rfl True.intro ?_
    | refine t_true rfl ?_ | refine t_false rfl ?_
    | ((first | refine t_cond_d rfl (fun _ => ?_) (fun _ => ?_) | refine t_cond_i rfl (fun _ => ?_) (fun _ => ?_) | refine t_cond_j rfl (fun _ => ?_) (fun _ => ?_) | refine t_cond_s rfl (fun _ => ?_) (fun _ => ?_) | refine t_cond_n rfl (fun _ => ?_) (fun _ => ?_) | refine t_cond rfl (fun _ => ?_) (fun _ => ?_) | refine c_split_d rfl rfl (fun _ => ?_) (fun _ => ?_) | refine c_split_i rfl rfl (fun _ => ?_) (fun _ => ?_) | refine c_split_j rfl rfl (fun _ => ?_) (fun _ => ?_) | refine c_split_s rfl rfl (fun _ => ?_) (fun _ => ?_) | refine c_split_n rfl rfl (fun _ => ?_) (fun _ => ?_)) <;> try (first | contradiction | (exfalso; omega)))
    | refine r_val rfl rfl (by (first | omega | exact Nat.le_of_ble_eq_true rfl | (simp only [wrap_u8, IntKind.wrap_i64, IntKind.wrap_i32, wrap_u32', wrap_u64', InI]; (repeat' refine And.intro ?_ ?_) <;> omega) | ((repeat' refine And.intro ?_ ?_) <;> first | omega | rfl | exact Nat.le_refl _ | exact Nat.le_of_ble_eq_true rfl | exact bytesF_one _) | (simp_all; done) | (simp_all; omega))) ?_ | refine r_gval rfl rfl rfl rfl (by (first | omega | exact Nat.le_of_ble_eq_true rfl | (simp only [wrap_u8, IntKind.wrap_i64, IntKind.wrap_i32, wrap_u32', wrap_u64', InI]; (repeat' refine And.intro ?_ ?_) <;> omega) | ((repeat' refine And.intro ?_ ?_) <;> first | omega | rfl | exact Nat.le_refl _ | exact Nat.le_of_ble_eq_true rfl | exact bytesF_one _) | (simp_all; done) | (simp_all; omega))) ?_
    | refine r_obj rfl rfl (by (first | omega | exact Nat.le_of_ble_eq_true rfl | (simp only [wrap_u8, IntKind.wrap_i64, IntKind.wrap_i32, wrap_u32', wrap_u64', InI]; (repeat' refine And.intro ?_ ?_) <;> omega) | ((repeat' refine And.intro ?_ ?_) <;> first | omega | rfl | exact Nat.le_refl _ | exact Nat.le_of_ble_eq_true rfl | exact bytesF_one _) | (simp_all; done) | (simp_all; omega))) ?_ | refine r_sto rfl (by (first | omega | exact Nat.le_of_ble_eq_true rfl | (simp only [wrap_u8, IntKind.wrap_i64, IntKind.wrap_i32, wrap_u32', wrap_u64', InI]; (repeat' refine And.intro ?_ ?_) <;> omega) | ((repeat' refine And.intro ?_ ?_) <;> first | omega | rfl | exact Nat.le_refl _ | exact Nat.le_of_ble_eq_true rfl | exact bytesF_one _) | (simp_all; done) | (simp_all; omega))) ?_ | refine r_gobj rfl rfl rfl rfl (by (first | omega | exact Nat.le_of_ble_eq_true rfl | (simp only [wrap_u8, IntKind.wrap_i64, IntKind.wrap_i32, wrap_u32', wrap_u64', InI]; (repeat' refine And.intro ?_ ?_) <;> omega) | ((repeat' refine And.intro ?_ ?_) <;> first | omega | rfl | exact Nat.le_refl _ | exact Nat.le_of_ble_eq_true rfl | exact bytesF_one _) | (simp_all; done) | (simp_all; omega))) ?_
    | refine e_hit rfl ?_ | refine e_miss rfl ?_
    | refine ⟨by kernel_rfl, ?_⟩ | refine x_end rfl ?_ | refine r_call (f := 45) rfl rfl Tryd.call45 rfl c1 ?_ | ((with_reducible refine c_grd ?_); (fail_if_success (refine c_lit true rfl rfl rfl ?_)); (fail_if_success (refine c_lit false rfl rfl rfl ?_)); refine c_split rfl rfl (fun _ => ?_) (fun _ => ?_)))
  · rename_i h
    rw [hR (), if_neg h]
    rfl
  · rename_i h
    rw [hR (), if_pos h]
    rfl

end Go.Proofs.YteidmimpkipcfaaDoor.Flow

/- TYPED: which value a field is, in plain words. -/
namespace Go.Proofs.YteidmimpkipcfaaDoor.Flow
open Go

/-- The greatest number that is no greater is the nearest one where the next isn't. -/
theorem near_fl {N D : Nat} (hD : 0 < D) : nearB N D (flB N D) = !(upB N D (flB N D)) := by
  obtain ⟨f1, f2, f3, f4⟩ := flB_ok N D
  rw [Bool.eq_iff_iff, near_iff]
  constructor
  · rintro ⟨h, _⟩
    rw [h]
    rfl
  · intro h
    have h : upB N D (flB N D) = false := by simpa using h
    refine ⟨h, ?_⟩
    by_cases hm : mB (flB N D) = 0
    · exact .inl hm
    · obtain ⟨c, hc, _⟩ := low_mid N D (flB N D) hm
      refine .inr ⟨c, hc, .inl ?_⟩
      have h1 := w_succ c
      have h2 := h_lt_u c
      rw [hc] at f2
      have h3 : D * (wB c + hB c) < D * wB (c + 1) := (Nat.mul_lt_mul_left hD).2 (by omega)
      omega

/-! ### A decimal that is read is right -/

theorem tL_split (s : List UInt8) : ∃ z, s = zs z ++ tL s := by
  induction s with
  | nil => exact ⟨0, rfl⟩
  | cons c s ih =>
    by_cases hc : c = 48
    · subst hc
      obtain ⟨z, hz⟩ := ih
      have e : tL (48 :: s) = tL s := by simp [tL, Lib.trimLeftB]
      refine ⟨z + 1, ?_⟩
      rw [e, show zs (z + 1) = 48 :: zs z from List.replicate_succ, List.cons_append, ← hz]
    · exact ⟨0, by rw [tL_ne hc]; rfl⟩

theorem tL_first (s : List UInt8) : ∀ c l, tL s = c :: l → ¬ c = 48 := by
  induction s with
  | nil =>
    intro c l h
    have : tL [] = [] := rfl
    rw [this] at h
    cases h
  | cons c s ih =>
    intro d l h
    by_cases hc : c = 48
    · subst hc
      have e : tL (48 :: s) = tL s := by simp [tL, Lib.trimLeftB]
      rw [e] at h
      exact ih d l h
    · rw [tL_ne hc] at h
      rw [← (List.cons.inj h).1]
      exact hc

theorem norm_isRight {neg : Bool} {s : List UInt8} {e : Int} (hs : ∀ c ∈ s, isD c = true) (h : (normF neg s e).2 = 0) : RightP (normF neg s e).1.1 (normF neg s e).1.2.1 (normF neg s e).1.2.2 := by
  unfold normF at h ⊢
  split
  · decide
  · rename_i h0
    rw [if_neg h0] at h
    split
    · decide
    · rename_i h1
      rw [if_neg h1] at h
      split
      · decide
      · rename_i h2
        dsimp only
        rw [right_cons h0]
        obtain ⟨z, hz⟩ := tL_split (tR s)
        have hk := tR_lastOk s
        have hmem : ∀ c ∈ tL (tR s), isD c = true := fun c hc => hs c (tR_mem (by rw [hz]; exact List.mem_append_right _ hc))
        have hf := tL_first (tR s)
        rw [hz] at hk
        generalize tL (tR s) = d at *
        refine ⟨fun i hi => isD_iff.1 (hmem _ ?_), by omega, fun h => ?_, fun h => ?_, by omega, by omega⟩
        · simp only [Int.toNat_natCast, List.getD_eq_getElem?_getD, List.getElem?_eq_getElem hi, Option.getD_some]
          exact List.getElem_mem hi
        · match d, h0 with
          | c :: l, _ => exact hf c l rfl ((u8_eq (n := 48) (by omega)).1 h)
        · rcases snoc_casesU d with rfl | ⟨r, w, rfl⟩
          · exact h0 rfl
          · have e : ((r ++ [w]).length : Int) - 1 = r.length := by simp
            rw [e, at_last] at h
            exact hk w (zs z ++ r) (by rw [List.append_assoc]) ((u8_eq (n := 48) (by omega)).1 h)

theorem whN_isD (s : List UInt8) (i : Nat) : ∀ c ∈ (whN s i).1, isD c = true := by
  unfold whN
  split
  · intro c hc
    rw [List.mem_singleton.1 hc]
    rfl
  · exact dgT_digit s i
theorem frN_isD (s : List UInt8) (i : Nat) : ∀ c ∈ (frN s i).1, isD c = true := by
  unfold frN
  split
  · exact dgT_digit s (i + 1)
  · intro c hc
    cases hc

theorem parse_right {pw : List UInt8 → Int} {s : List UInt8} (h : (parseG pw s).2.2 = 0) : RightP (parseG pw s).1.1 (parseG pw s).1.2.1 (parseG pw s).1.2.2 := by
  unfold parseG at h ⊢
  split
  · decide
  · rename_i h0
    rw [if_neg h0] at h
    dsimp only at h ⊢
    split
    · rename_i h1
      exact norm_isRight (fun c hc => by
        rcases List.mem_append.1 hc with hc | hc
        · exact whN_isD _ _ c hc
        · exact frN_isD _ _ c hc) h1
    · exact (show RightP false [] 0 by decide)

/-! ### A text that is wholly a number has no letters but e -/

def asc (s : List UInt8) (a b : Nat) : Prop := ∀ i, a ≤ i → i < b → i < s.length → at' s i < 128

theorem asc_dgT (s : List UInt8) (i : Nat) : asc s i (i + (dgT s i).length) := fun j h1 h2 _ => by
  have hm : (dgT s i).getD (j - i) 0 ∈ dgT s i := by
    rw [List.getD_eq_getElem?_getD, List.getElem?_eq_getElem (by omega)]
    exact List.getElem_mem _
  have h3 := isD_iff.1 (dgT_digit s i _ hm)
  rw [dgT_at s i (j - i) (by omega), show i + (j - i) = j by omega] at h3
  unfold at'
  rw [Int.toNat_natCast]
  omega

theorem asc_sat {s : List UInt8} {i : Nat} {c : Int} (h : sat s i c) (hc : c < 128) : asc s i (i + 1) := fun j h1 h2 _ => by
  obtain rfl : j = i := by omega
  have := h.2
  omega
theorem asc_nil (s : List UInt8) (i : Nat) : asc s i i := fun j h1 h2 _ => by omega
theorem asc_app {s : List UInt8} {a b c : Nat} (h : asc s a b) (h2 : asc s b c) : asc s a c := fun j h3 h4 h5 => by
  by_cases hj : j < b
  · exact h j h3 hj h5
  · exact h2 j (by omega) h4 h5

theorem whN_asc (s : List UInt8) (i : Nat) : asc s i (whN s i).2 := by
  unfold whN
  split
  · rename_i h
    exact asc_sat h (by decide)
  · exact asc_dgT s i
theorem frN_asc (s : List UInt8) (i : Nat) : asc s i (frN s i).2 := by
  unfold frN
  split
  · rename_i h
    exact asc_app (asc_sat h.1 (by decide)) (asc_dgT s (i + 1))
  · exact asc_nil s i
theorem sgN_asc (s : List UInt8) (i : Nat) : asc s i (sgN s i) := by
  unfold sgN
  split
  · rename_i h
    rcases h with h | h
    · exact asc_sat h (by decide)
    · exact asc_sat h (by decide)
  · exact asc_nil s i
theorem exN_asc (pw : List UInt8 → Int) (s : List UInt8) (i : Nat) : asc s i (exN pw s i).2 := by
  unfold exN
  split
  · rename_i h
    have h1 : asc s i (i + 1) := by
      rcases h.1 with h | h
      · exact asc_sat h (by decide)
      · exact asc_sat h (by decide)
    exact asc_app h1 (asc_app (sgN_asc s (i + 1)) (asc_dgT s _))
  · exact asc_nil s i
theorem sg0_asc (s : List UInt8) : asc s 0 (sg0 s) := by
  unfold sg0
  split
  · rename_i h
    exact asc_sat h (by decide)
  · exact asc_nil s 0

theorem parse_asc {pw : List UInt8 → Int} {s : List UInt8} (h : (parseG pw s).2.2 = 0) (hl : (parseG pw s).2.1 = s.length) : ∀ c ∈ s, c.toNat < 128 := by
  have key : asc s 0 s.length := by
    unfold parseG at h hl
    split at h
    · cases h
    · rename_i h0
      rw [if_neg h0] at hl
      dsimp only at h hl
      split at h
      · rename_i h1
        rw [if_pos h1] at hl
        have hl : (exN pw s (frN s (whN s (sg0 s)).2).2).2 = s.length := hl
        rw [← hl]
        exact asc_app (sg0_asc s) (asc_app (whN_asc s _) (asc_app (frN_asc s _) (exN_asc pw s _)))
      · rename_i h1
        exact absurd h h1
  intro c hc
  obtain ⟨i, hi, rfl⟩ := List.getElem_of_mem hc
  have := key i (by omega) hi hi
  unfold at' at this
  simp only [Int.toNat_natCast, List.getD_eq_getElem?_getD, List.getElem?_eq_getElem hi, Option.getD_some] at this
  omega

/-- Is all of a text a number? -/
def isNum (s : List UInt8) : Bool := decide ((parseG powP s).2.2 = 0 ∧ (parseG powP s).2.1 = s.length)
/-- Has a text the point, or the letter of the exponent? -/
def dotE (s : List UInt8) : Bool := s.any fun c => c == 46 || c == 101 || c == 69

theorem cont_dotE (s : List UInt8) : Lib.containsAny s [46, 101, 69] = dotE s := by
  unfold Lib.containsAny dotE
  induction s with
  | nil => rfl
  | cons b l ih =>
    have hge := Lib.indexAny_ge [46, 101, 69] l
    rw [List.any_cons, ← ih]
    have e : Lib.indexAny (b :: l) [46, 101, 69] = if ([46, 101, 69] : List UInt8).contains b then 0 else if Lib.indexAny l [46, 101, 69] == -1 then -1 else Lib.indexAny l [46, 101, 69] + 1 := rfl
    rw [e]
    have hc : ([46, 101, 69] : List UInt8).contains b = (b == 46 || b == 101 || b == 69) := by
      simp [List.contains_cons, Bool.or_assoc]
      rfl
    rw [hc]
    generalize (b == 46 || b == 101 || b == 69) = z
    generalize Lib.indexAny l [46, 101, 69] = k at *
    cases z with
    | true => simp
    | false =>
      by_cases hk : k = -1
      · simp [hk]
      · simp [hk]
        omega

end Go.Proofs.YteidmimpkipcfaaDoor.Flow

/-
  FLOW, PART S: A TEXT OF SINGLE BYTES READ LETTER BY LETTER ('for .. range' over a text); division of numbers below 0.
-/
namespace Go.Proofs.YteidmimpkipcfaaDoor.Flow
open Go

/-- The object is changed in its place. -/
theorem Chg.setObj (w : World) (S : Cells) (b : Nat) (x : Obj) (hS : ∀ o, ¬ S b o) : Chg w { w with heap := w.heap.setIfInBounds b x } S (some b) where
  os := rfl
  tape := rfl
  output := rfl
  size := by simp
  block := fun k _ hne => by
    have : b ≠ k := fun e => hne (by rw [e])
    simp [Array.getElem?_setIfInBounds, this]
  cell := fun b' o hb => by
    have : b ≠ b' := fun e => hS o (by rw [e]; exact hb)
    have e : ({ w with heap := w.heap.setIfInBounds b x } : World).heap[b']? = w.heap[b']? := by simp [Array.getElem?_setIfInBounds, this]
    exact World.cell?_of_block e

section
variable {P : Program} {X : Ctx} {n : Nat} {O : Nat → Option Own}

/-- A new object, told as it lies. -/
theorem newOb_ok {w : World} {S : Cells} {r : Rho} (x : Obj) (hH : Hist X w S) (hI : Inv X w S r O) {k : Nat} (hk : O k = none) :
    ∃ r', Rel S (w.alloc x) r' (.pv k 0) (.pointer (some ⟨w.heap.size, 0, none⟩)) ∧ Hist X (w.alloc x) S ∧ Inv X (w.alloc x) S r' (updO O [(k, .ob x)]) ∧
      (∀ b o, S b o → (w.alloc x).cell? ⟨b, o, none⟩ = w.cell? ⟨b, o, none⟩) ∧ RhoLe r r' := by
  have hc := Chg.alloc w S hH.valid x
  have hr : RhoLe r (updR r k (.blk w.heap.size)) := RhoLe.new (hI.dom k hk)
  have hk0 : updR r k (.blk w.heap.size) k = some (.blk w.heap.size) := by simp [updR]
  refine ⟨updR r k (.blk w.heap.size), .pv _ k 0 _ hk0, ?_, ?_, hc.cell, hr⟩
  · exact hH.chg hc (fun b hb => by cases hb) (fun _ _ h => h) (fun b o h => .inl h)
  · refine hI.put hc (fun _ _ h => h) hr k _ (.blk w.heap.size) ?_ hk0 (fun j hj => by simp [updR, hj]) (fun b hb => ?_) (fun b hb => by cases hb) (fun b o h => .inl h)
    · exact ⟨w.heap.size, hk0, heap_alloc_new w _, fun o ho => by have := hH.valid _ _ ho; omega⟩
    · simp only [Loc.block, Option.some.injEq] at hb
      subst hb
      exact .inl ⟨Nat.le_refl _, .inl hH.size⟩

/-- An object told as it lies becomes another. -/
theorem setOb_ok {w : World} {S : Cells} {r : Rho} {x : Obj} {b : Nat} (y : Obj) (hH : Hist X w S) (hI : Inv X w S r O) {k : Nat} (hk : O k = some (.ob x)) (hb : r k = some (.blk b)) :
    Hist X { w with heap := w.heap.setIfInBounds b y } S ∧ Inv X { w with heap := w.heap.setIfInBounds b y } S r (updO O [(k, .ob y)]) ∧
      (∀ b' o, S b' o → ({ w with heap := w.heap.setIfInBounds b y } : World).cell? ⟨b', o, none⟩ = w.cell? ⟨b', o, none⟩) := by
  obtain ⟨b', h1, h2, h3⟩ := hI.obj k _ hk
  rw [hb] at h1
  cases h1
  have hc := Chg.setObj w S b y h3
  have hlow := hI.low k _ b hb rfl
  refine ⟨?_, ?_, hc.cell⟩
  · exact hH.chg hc (fun b' hb' => by cases hb'; exact hlow) (fun _ _ h => h) (fun b o h => .inl h)
  · refine hI.put hc (fun _ _ h => h) (RhoLe.refl r) k _ (.blk b) ?_ hb (fun _ _ => rfl) (fun b' hb' => .inr ⟨_, hb, hb'⟩) (fun b' hb' => ⟨_, hb, hb'⟩) (fun b o h => .inl h)
    have hlt := (Array.getElem?_eq_some_iff.1 h2).1
    exact ⟨b, hb, by simp [hlt], h3⟩

variable {o : Oper} {fr : Fr} {ow : Ow} {t k pos : Nat} {ty : TypeId} {x : Operand} {l : List UInt8}

theorem range_step {B' : Tb} (hB : tb P = B') (ho : o.op = .range ty x) (hty : B'.ty ty = .str) (hx : ev fr x = .s l) (ht : look t ow = none) (hd : dstOk o.dst n) :
    ∀ F' O', (∀ y ∈ o.op.operands.toList, evF F' y = evF (fF fr) y) → (∀ j ∈ [t], O' j = fO ow j) → StepAt P X n o F' O' (.pv t 0) [(t, .ob (.stringIter ⟨l.toArray⟩ 0))] := by
  intro F' O' he hO
  refine stepAt_of hd fun a w S r hH hI hr => ?_
  have hx' := hr x
  rw [he x (by simp [ho, Op.operands]), evF_fF, hx] at hx'
  have hk : O' t = none := (hO t (by simp)).trans ht
  have hu := tyOf_str (P := P) (t := ty) (by subst hB; exact hty)
  obtain ⟨r', g1, g2, g3, g4, g5⟩ := newOb_ok (.stringIter ⟨l.toArray⟩ 0) hH hI hk
  refine ⟨_, _, S, r', .inl ?_, g1, g2, g3, fun _ _ h => h, g4, g5⟩
  generalize hv : a.eval x = v at hx'
  cases hx'
  simp [execOp, ho, Instr.range, underlying, hu, hv, Sem.run_bind, newObj, Sem.run, Result.andThen]

theorem at_byte (l : List UInt8) (pos : Nat) (h : pos < l.length) : (((⟨l.toArray⟩ : ByteArray)[pos]'(by simpa [ByteArray.size] using h)).toNat : Int) = at' l pos := by
  unfold at'
  simp [List.getD_eq_getElem?_getD, h, ByteArray.getElem_eq_getElem_data]

theorem next_step (ho : o.op = .next x true) (hx : ev fr x = .pv k 0) (hk : look k ow = some (.ob (.stringIter ⟨l.toArray⟩ pos))) (hp : pos < l.length) (hb : at' l pos < 128) (hd : dstOk o.dst n) :
    ∀ F' O', (∀ y ∈ o.op.operands.toList, evF F' y = evF (fF fr) y) → (∀ j ∈ [k], O' j = fO ow j) →
      StepAt P X n o F' O' (.tu [.b true, .i .i64 pos, .i .i32 (at' l pos)]) [(k, .ob (.stringIter ⟨l.toArray⟩ (pos + 1)))] := by
  intro F' O' he hO
  refine stepAt_of hd fun a w S r hH hI hr => ?_
  have hx' := hr x
  rw [he x (by simp [ho, Op.operands]), evF_fF, hx] at hx'
  have hk' : O' k = some (.ob (.stringIter ⟨l.toArray⟩ pos)) := (hO k (by simp)).trans hk
  obtain ⟨b, h1, h2, h3⟩ := hI.obj k _ hk'
  obtain ⟨g1, g2, g3⟩ := setOb_ok (.stringIter ⟨l.toArray⟩ (pos + 1)) hH hI hk' h1
  have hlt : pos < (⟨l.toArray⟩ : ByteArray).size := by simpa [ByteArray.size] using hp
  have hbb : ((⟨l.toArray⟩ : ByteArray)[pos]'hlt).toNat < 128 := by
    have := at_byte l pos hp
    omega
  refine ⟨.tuple #[.bool true, .int .i64 pos, .int .i32 (((⟨l.toArray⟩ : ByteArray)[pos]'hlt).toNat)], _, S, r, .inl ?_, .tu _ _ _ rfl fun j hj => ?_, g1, g2, fun _ _ h => h, g3, RhoLe.refl r⟩
  · generalize hv : a.eval x = v at hx'
    cases hx' with
    | pv _ _ _ b' h4 =>
      rw [h1] at h4
      cases h4
      have hrun := Lib.run_next_ascii_at (P := P) w b ⟨l.toArray⟩ pos o.type h2 hlt hbb
      unfold World.iterAt at hrun
      simp only [execOp, ho, hv]
      simp [hrun]
  · match j, hj with
    | 0, _ => exact .b ..
    | 1, _ => exact .i ..
    | 2, _ =>
      show Rel S _ r (.i .i32 (at' l pos)) (.int .i32 _)
      rw [← at_byte l pos hp]
      exact .i ..

theorem over_step (ho : o.op = .next x true) (hx : ev fr x = .pv k 0) (hk : look k ow = some (.ob (.stringIter ⟨l.toArray⟩ pos))) (hp : l.length ≤ pos) (hd : dstOk o.dst n) :
    ∀ F' O', (∀ y ∈ o.op.operands.toList, evF F' y = evF (fF fr) y) → (∀ j ∈ [k], O' j = fO ow j) → StepAt P X n o F' O' (.tu [.b false]) [] := by
  intro F' O' he hO
  refine stepAt_of hd fun a w S r hH hI hr => ?_
  have hx' := hr x
  rw [he x (by simp [ho, Op.operands]), evF_fF, hx] at hx'
  have hk' : O' k = some (.ob (.stringIter ⟨l.toArray⟩ pos)) := (hO k (by simp)).trans hk
  obtain ⟨b, h1, h2, h3⟩ := hI.obj k _ hk'
  refine ⟨.tuple #[.bool false], w, S, r, .inl ?_, .tu _ _ _ rfl fun j hj => ?_, hH, hI, fun _ _ h => h, fun _ _ _ => rfl, RhoLe.refl r⟩
  · generalize hv : a.eval x = v at hx'
    cases hx' with
    | pv _ _ _ b' h4 =>
      rw [h1] at h4
      cases h4
      have hrun := Lib.run_next_end_at (P := P) w b ⟨l.toArray⟩ pos o.type h2 (by simpa [ByteArray.size] using hp)
      simp only [execOp, ho, hv]
      simp [hrun]
  · match j, hj with
    | 0, _ => exact .b ..

theorem tdiv_in {a b : Int} (hb : 0 < b) (ha : InI a) : InI (a.tdiv b) := by
  have h1 : (a.tdiv b).natAbs = a.natAbs / b.natAbs := Int.natAbs_tdiv a b
  have h2 : a.natAbs / b.natAbs ≤ a.natAbs := Nat.div_le_self _ _
  by_cases h : 0 ≤ a
  · have := Int.tdiv_nonneg h (Int.le_of_lt hb)
    omega
  · have h3 : a.tdiv b ≤ 0 := by
      have e : (-a).tdiv b = -(a.tdiv b) := Int.neg_tdiv a b
      have := Int.tdiv_nonneg (show 0 ≤ -a by omega) (Int.le_of_lt hb)
      omega
    omega

theorem quo_step {a b : Int} {y : Operand} {ty2 : TypeId} (ho : o.op = .binOp .quo ty x y ty2) (hx : ev fr x = .i .i64 a) (hy : ev fr y = .i .i64 b) (hb : 0 < b) (ha : InI a) (hd : dstOk o.dst n) :
    ∀ F' O', (∀ y ∈ o.op.operands.toList, evF F' y = evF (fF fr) y) → (∀ j ∈ ([] : List Nat), O' j = fO ow j) → StepAt P X n o F' O' (.i .i64 (a.tdiv b)) [] := by
  intro F' O' he _
  refine stepAt_of hd fun a' w S r hH hI hr => ?_
  have hx' := hr x
  have hy' := hr y
  rw [he x (by simp [ho, Op.operands]), evF_fF, hx] at hx'
  rw [he y (by simp [ho, Op.operands]), evF_fF, hy] at hy'
  have hne : b ≠ 0 := by omega
  refine ⟨.int .i64 (a.tdiv b), w, S, r, .inl ?_, .i .., hH, hI, fun _ _ h => h, fun _ _ _ => rfl, RhoLe.refl r⟩
  generalize hv : a'.eval x = v at hx'
  generalize hu : a'.eval y = u at hy'
  cases hx'
  cases hy'
  have h1 : (do eqGuard .quo ty x y (.int .i64 a) (.int .i64 b); binOp .quo ty (.int .i64 a) (.int .i64 b) : Sem Value).run P w = .ok (.int .i64 (IntKind.i64.wrap (a.tdiv b))) w := by
    have e0 : (eqGuard .quo ty x y (.int .i64 a) (.int .i64 b)) = pure () := rfl
    simp only [e0]
    simp [binOp_quo, Op.intDiv, hne]
  rw [wrapI (tdiv_in hb ha)] at h1
  simp only [execOp, ho, hv, hu, Sem.run_bind] at h1 ⊢
  rw [h1]
  rfl

theorem rem_step {k : IntKind} {a b : Int} {y : Operand} {ty2 : TypeId} (ho : o.op = .binOp .rem ty x y ty2) (hx : ev fr x = .i k a) (hy : ev fr y = .i k b) (hb : 0 < b) (hd : dstOk o.dst n) :
    ∀ F' O', (∀ y ∈ o.op.operands.toList, evF F' y = evF (fF fr) y) → (∀ j ∈ ([] : List Nat), O' j = fO ow j) → StepAt P X n o F' O' (.i k (a.tmod b)) [] := by
  intro F' O' he _
  refine stepAt_of hd fun a' w S r hH hI hr => ?_
  have hx' := hr x
  have hy' := hr y
  rw [he x (by simp [ho, Op.operands]), evF_fF, hx] at hx'
  rw [he y (by simp [ho, Op.operands]), evF_fF, hy] at hy'
  have hne : b ≠ 0 := by omega
  refine ⟨.int k (a.tmod b), w, S, r, .inl ?_, .i .., hH, hI, fun _ _ h => h, fun _ _ _ => rfl, RhoLe.refl r⟩
  generalize hv : a'.eval x = v at hx'
  generalize hu : a'.eval y = u at hy'
  cases hx'
  cases hy'
  have h1 : (do eqGuard .rem ty x y (.int k a) (.int k b); binOp .rem ty (.int k a) (.int k b) : Sem Value).run P w = .ok (.int k (a.tmod b)) w := by
    have e0 : (eqGuard .rem ty x y (.int k a) (.int k b)) = pure () := rfl
    simp only [e0]
    simp [binOp_rem, Op.intDiv, hne]
  simp only [execOp, ho, hv, hu, Sem.run_bind] at h1 ⊢
  rw [h1]
  rfl

end

section
variable {X : Ctx} {n : Nat} {all rest : List Oper} {fr : Fr} {ow : Ow} {tr : List (List Nat × List Nat)} {K : Fr → Ow → List (List Nat × List Nat) → Prop}
variable {t k pos : Nat} {ty ty' : TypeId} {ps : String} {af : Array Edge} {x : Operand} {l : List UInt8}

theorem range_aux (o : Oper) (ho : o.op = .range ty x) (hg : o.guard = none) (hds : o.dst = some t) (hty : B.ty ty = .str) (hx : ev fr x = .s l) (ht : look t ow = none) (hn : Nat.blt t n = true)
    (h : CT Tryd.prog X n all rest ((t, .pv t 0) :: fr) ((t, .ob (.stringIter ⟨l.toArray⟩ 0)) :: ow) (tr ++ [([t], [t])]) K) : CT Tryd.prog X n all (o :: rest) fr ow tr K := by
  have e := tb_eq
  have h1 := @range_step Tryd.prog X n o fr ow t ty x l
  have h2 := @h1 B e
  have h3 := h2 ho
  have h4 := h3 hty hx ht (by rw [hds]; exact Nat.le_of_ble_eq_true hn)
  refine CT.cons (e := ⟨.pv t 0, [t], [(t, .ob (.stringIter ⟨l.toArray⟩ 0))]⟩) (.plain hg h4) ?_ (fO_cons ..) h
  rw [hds]
  exact fF_cons ..

/-- A text's letters, from the first. -/
theorem r_range (hty : B.ty ty = .str) (hx : ev fr x = .s l) (ht : look t ow = none) (hn : Nat.blt t n = true)
    (h : CT Tryd.prog X n all rest ((t, .pv t 0) :: fr) ((t, .ob (.stringIter ⟨l.toArray⟩ 0)) :: ow) (tr ++ [([t], [t])]) K) : CT Tryd.prog X n all (⟨some t, .range ty x, ty', ps, af, none⟩ :: rest) fr ow tr K := by
  generalize ho : (⟨some t, .range ty x, ty', ps, af, none⟩ : Oper) = o
  exact range_aux o (by rw [← ho]) (by rw [← ho]) (by rw [← ho]) hty hx ht hn h

/-- The next letter: a single byte. -/
theorem r_next (hx : ev fr x = .pv k 0) (hk : look k ow = some (.ob (.stringIter ⟨l.toArray⟩ pos))) (hn : Nat.blt t n = true) (hp : pos < l.length) (hb : at' l pos < 128)
    (h : CT Tryd.prog X n all rest ((t, .tu [.b true, .i .i64 pos, .i .i32 (at' l pos)]) :: fr) ((k, .ob (.stringIter ⟨l.toArray⟩ (pos + 1))) :: ow) (tr ++ [([k], [k])]) K) :
    CT Tryd.prog X n all (⟨some t, .next x true, ty', ps, af, none⟩ :: rest) fr ow tr K :=
  CT.cons (e := ⟨.tu [.b true, .i .i64 pos, .i .i32 (at' l pos)], [k], [(k, .ob (.stringIter ⟨l.toArray⟩ (pos + 1)))]⟩) (.plain rfl (next_step (P := Tryd.prog) (X := X) (o := ⟨some t, .next x true, ty', ps, af, none⟩) rfl hx hk hp hb (Nat.le_of_ble_eq_true hn))) (fF_cons ..) (fO_cons ..) h

/-- No letter more. -/
theorem r_over (hx : ev fr x = .pv k 0) (hk : look k ow = some (.ob (.stringIter ⟨l.toArray⟩ pos))) (hn : Nat.blt t n = true) (hp : l.length ≤ pos)
    (h : CT Tryd.prog X n all rest ((t, .tu [.b false]) :: fr) ow (tr ++ [([k], [])]) K) : CT Tryd.prog X n all (⟨some t, .next x true, ty', ps, af, none⟩ :: rest) fr ow tr K :=
  CT.cons (e := ⟨.tu [.b false], [k], []⟩) (.plain rfl (over_step (P := Tryd.prog) (X := X) (o := ⟨some t, .next x true, ty', ps, af, none⟩) rfl hx hk hp (Nat.le_of_ble_eq_true hn))) (fF_cons ..) rfl h

/-- Division of numbers below 0 too: towards 0. -/
theorem r_tquo {a b : Int} {y : Operand} {ty2 : TypeId} (hx : ev fr x = .i .i64 a) (hy : ev fr y = .i .i64 b) (hn : Nat.blt t n = true) (hb : 0 < b) (ha : InI a)
    (h : CT Tryd.prog X n all rest ((t, .i .i64 (a.tdiv b)) :: fr) ow (tr ++ [([], [])]) K) : CT Tryd.prog X n all (⟨some t, .binOp .quo ty x y ty2, ty', ps, af, none⟩ :: rest) fr ow tr K :=
  CT.cons (e := ⟨.i .i64 (a.tdiv b), [], []⟩) (.plain rfl (quo_step (P := Tryd.prog) (X := X) (o := ⟨some t, .binOp .quo ty x y ty2, ty', ps, af, none⟩) rfl hx hy hb ha (Nat.le_of_ble_eq_true hn))) (fF_cons ..) rfl h

theorem r_trem {k : IntKind} {a b : Int} {y : Operand} {ty2 : TypeId} (hx : ev fr x = .i k a) (hy : ev fr y = .i k b) (hn : Nat.blt t n = true) (hb : 0 < b)
    (h : CT Tryd.prog X n all rest ((t, .i k (a.tmod b)) :: fr) ow (tr ++ [([], [])]) K) : CT Tryd.prog X n all (⟨some t, .binOp .rem ty x y ty2, ty', ps, af, none⟩ :: rest) fr ow tr K :=
  CT.cons (e := ⟨.i k (a.tmod b), [], []⟩) (.plain rfl (rem_step (P := Tryd.prog) (X := X) (o := ⟨some t, .binOp .rem ty x y ty2, ty', ps, af, none⟩) rfl hx hy hb (Nat.le_of_ble_eq_true hn))) (fF_cons ..) rfl h

theorem r_gtrem {k : IntKind} {a b : Int} {y : Operand} {ty2 : TypeId} {g u : Nat} {want : Bool} (hu : dstAt all g = some u) (hc : getD' u fr = .b want) (hx : ev fr x = .i k a) (hy : ev fr y = .i k b) (hn : Nat.blt t n = true) (hb : 0 < b)
    (h : CT Tryd.prog X n all rest ((t, .i k (a.tmod b)) :: fr) ow (tr ++ [([], [])]) K) : CT Tryd.prog X n all (⟨some t, .binOp .rem ty x y ty2, ty', ps, af, some (g, want)⟩ :: rest) fr ow tr K :=
  CT.cons (e := ⟨.i k (a.tmod b), [], []⟩) (.guarded rfl hu hc (rem_step (o := ⟨some t, .binOp .rem ty x y ty2, ty', ps, af, some (g, want)⟩) rfl hx hy hb (Nat.le_of_ble_eq_true hn))) (fF_cons ..) rfl h

theorem r_gtquo {a b : Int} {y : Operand} {ty2 : TypeId} {g u : Nat} {want : Bool} (hu : dstAt all g = some u) (hc : getD' u fr = .b want) (hx : ev fr x = .i .i64 a) (hy : ev fr y = .i .i64 b) (hn : Nat.blt t n = true) (hb : 0 < b) (ha : InI a)
    (h : CT Tryd.prog X n all rest ((t, .i .i64 (a.tdiv b)) :: fr) ow (tr ++ [([], [])]) K) : CT Tryd.prog X n all (⟨some t, .binOp .quo ty x y ty2, ty', ps, af, some (g, want)⟩ :: rest) fr ow tr K :=
  CT.cons (e := ⟨.i .i64 (a.tdiv b), [], []⟩) (.guarded rfl hu hc (quo_step (o := ⟨some t, .binOp .quo ty x y ty2, ty', ps, af, some (g, want)⟩) rfl hx hy hb ha (Nat.le_of_ble_eq_true hn))) (fF_cons ..) rfl h

end
end Go.Proofs.YteidmimpkipcfaaDoor.Flow
