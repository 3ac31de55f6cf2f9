import Derived.Test.YtenkmfahcmahkaaU0
import Derived.Test.YtenkmfahcmahkaaF2
/- FLOAT: the program's numbers: times a word. -/
namespace Go.Proofs.Ytenkmfahcmahkaa.Flow
open Go

/-- Words as a slice's elements. -/
def wF (k : IntKind) (l : List Nat) : Nat → List D := fun i => [.i k ((l.getD i 0 : Nat) : Int)]
abbrev slW (k : IntKind) (l : List Nat) : D := .sl 1 l.length (wF k l)

theorem catF_w (k : IntKind) (l xs : List Nat) (g : Nat → List D) (hg : ∀ i, i < xs.length → g i = wF k xs i) : catF l.length (wF k l) xs.length g = wF k (l ++ xs) := by
  funext j
  unfold catF
  by_cases h : j < l.length
  · rw [if_pos h]
    simp [wF, List.getD_eq_getElem?_getD, h, List.getElem?_append_left]
  · rw [if_neg h]
    by_cases h2 : j < l.length + xs.length
    · rw [if_pos h2, hg _ (by omega)]
      simp [wF, List.getD_eq_getElem?_getD, List.getElem?_append_right (show l.length ≤ j by omega)]
    · rw [if_neg h2]
      simp [wF, List.getD_eq_getElem?_getD, List.getElem?_append_right (show l.length ≤ j by omega)]
      rw [List.getElem?_eq_none (show l.length ≤ j by omega), List.getElem?_eq_none (show xs.length ≤ j - l.length by omega)]

theorem catF_w1 (k : IntKind) (l : List Nat) (n x : Nat) (g : Nat → List D) (hn : n = l.length) (hg : g 0 = [.i k (x : Int)]) : catF n (wF k l) 1 g = wF k (l ++ [x]) := by
  subst hn
  exact catF_w k l [x] g fun i hi => by
    have : i = 0 := by simpa using hi
    subst this
    exact hg

theorem slW_snoc (k : IntKind) (l : List Nat) (n x : Nat) (g : Nat → List D) (hn : n = l.length) (hg : g 0 = [.i k (x : Int)]) : D.sl 1 (n + 1) (catF n (wF k l) 1 g) = slW k (l ++ [x]) := by
  rw [catF_w1 k l n x g hn hg]
  subst hn
  simp [slW]

theorem WL.rfl' (a : List D) : WL a a := .inl rfl
theorem WL.of_eq {a b : List D} (h : a = b) : WL a b := .inl h


theorem getD_lt {B : Nat} {l : List Nat} (h : wsm B l) (hB : 0 < B) (i : Nat) : l.getD i 0 < B := by
  by_cases hi : i < l.length
  · simp only [List.getD_eq_getElem?_getD, List.getElem?_eq_getElem hi, Option.getD_some]
    exact h _ (List.getElem_mem hi)
  · simp only [List.getD_eq_getElem?_getD, List.getElem?_eq_none (show l.length ≤ i by omega), Option.getD_none]
    exact hB

theorem drop_getD {l : List Nat} {i : Nat} (h : i < l.length) : l.drop i = l.getD i 0 :: l.drop (i + 1) := by
  rw [List.getD_eq_getElem?_getD, List.getElem?_eq_getElem h, Option.getD_some, List.drop_eq_getElem_cons h]

theorem mulAdd_ctr (l : List Nat) (m c : Nat) (hl : wsm 4294967296 l) (hm : m < 4294967296) (hc : c < 4294967296) (hlen : l.length ≤ 1048576) :
    Ctr Try.prog 26 [slW .u32 l, .i .u32 m, .i .u32 c] (slW .u32 (mulG 4294967296 m c l)) := by
  refine r_fun Try.func26 rfl Try.ntmps26 Try.results26 rfl rfl fun X hL hX => ?_
  repeat' (first
    | with_reducible refine t_seq ?_ | with_reducible refine t_region ?_ | with_reducible refine c_nil ?_ | with_reducible refine n_then ?_
    | with_reducible refine t_ret ?_ | with_reducible refine t_skip ?_ | with_reducible refine t_exit ?_ | with_reducible refine t_block ?_
    | with_reducible refine n_block ?_ | with_reducible refine e_then ?_ | with_reducible refine x_then ?_ | with_reducible refine x_block ?_ | with_reducible refine t_draw ?_
    | refine r_val rfl rfl True.intro ?_ | refine r_gskip rfl rfl rfl ?_ | refine r_gskip2 rfl rfl rfl ?_ | refine r_gval rfl rfl rfl rfl True.intro ?_
    | refine t_true rfl ?_ | refine t_false rfl ?_
    | ((first | refine t_cond_d rfl (fun _ => ?_) (fun _ => ?_) | refine t_cond_i rfl (fun _ => ?_) (fun _ => ?_) | refine t_cond_j rfl (fun _ => ?_) (fun _ => ?_) | refine t_cond_s rfl (fun _ => ?_) (fun _ => ?_) | refine t_cond_n rfl (fun _ => ?_) (fun _ => ?_) | refine t_cond rfl (fun _ => ?_) (fun _ => ?_) | refine c_split_d rfl rfl (fun _ => ?_) (fun _ => ?_) | refine c_split_i rfl rfl (fun _ => ?_) (fun _ => ?_) | refine c_split_j rfl rfl (fun _ => ?_) (fun _ => ?_) | refine c_split_s rfl rfl (fun _ => ?_) (fun _ => ?_) | refine c_split_n rfl rfl (fun _ => ?_) (fun _ => ?_)) <;> try (first | contradiction | (exfalso; omega)))
    | refine r_val rfl rfl (by (first | omega | exact Nat.le_of_ble_eq_true rfl | (simp only [wrap_u8, IntKind.wrap_i64, IntKind.wrap_i32, wrap_u32', wrap_u64', InI]; (repeat' refine And.intro ?_ ?_) <;> omega) | ((repeat' refine And.intro ?_ ?_) <;> first | omega | rfl | exact Nat.le_refl _ | exact Nat.le_of_ble_eq_true rfl | exact bytesF_one _) | (simp_all; done) | (simp_all; omega))) ?_ | refine r_gval rfl rfl rfl rfl (by (first | omega | exact Nat.le_of_ble_eq_true rfl | (simp only [wrap_u8, IntKind.wrap_i64, IntKind.wrap_i32, wrap_u32', wrap_u64', InI]; (repeat' refine And.intro ?_ ?_) <;> omega) | ((repeat' refine And.intro ?_ ?_) <;> first | omega | rfl | exact Nat.le_refl _ | exact Nat.le_of_ble_eq_true rfl | exact bytesF_one _) | (simp_all; done) | (simp_all; omega))) ?_
    | refine r_obj rfl rfl (by (first | omega | exact Nat.le_of_ble_eq_true rfl | (simp only [wrap_u8, IntKind.wrap_i64, IntKind.wrap_i32, wrap_u32', wrap_u64', InI]; (repeat' refine And.intro ?_ ?_) <;> omega) | ((repeat' refine And.intro ?_ ?_) <;> first | omega | rfl | exact Nat.le_refl _ | exact Nat.le_of_ble_eq_true rfl | exact bytesF_one _) | (simp_all; done) | (simp_all; omega))) ?_ | refine r_sto rfl (by (first | omega | exact Nat.le_of_ble_eq_true rfl | (simp only [wrap_u8, IntKind.wrap_i64, IntKind.wrap_i32, wrap_u32', wrap_u64', InI]; (repeat' refine And.intro ?_ ?_) <;> omega) | ((repeat' refine And.intro ?_ ?_) <;> first | omega | rfl | exact Nat.le_refl _ | exact Nat.le_of_ble_eq_true rfl | exact bytesF_one _) | (simp_all; done) | (simp_all; omega))) ?_ | refine r_gobj rfl rfl rfl rfl (by (first | omega | exact Nat.le_of_ble_eq_true rfl | (simp only [wrap_u8, IntKind.wrap_i64, IntKind.wrap_i32, wrap_u32', wrap_u64', InI]; (repeat' refine And.intro ?_ ?_) <;> omega) | ((repeat' refine And.intro ?_ ?_) <;> first | omega | rfl | exact Nat.le_refl _ | exact Nat.le_of_ble_eq_true rfl | exact bytesF_one _) | (simp_all; done) | (simp_all; omega))) ?_
    | refine e_hit rfl ?_ | refine e_miss rfl ?_
    | refine ⟨by kernel_rfl, ?_⟩ | ((with_reducible refine c_grd ?_); (fail_if_success (refine c_lit true rfl rfl rfl ?_)); (fail_if_success (refine c_lit false rfl rfl rfl ?_)); refine c_split rfl rfl (fun _ => ?_) (fun _ => ?_)))
  refine T.loop hL (fun x : Nat × Nat × List Nat => [(1, .i .u32 m), (7, .ah 14 1 x.1), (8, .i .u64 x.2.1), (17, slW .u32 l), (18, .i .i64 l.length), (19, .i .i64 x.1)]) (fun x => [(14, .arr 54 1 x.1 (wF .u32 x.2.2))])
    (fun x => x.1 ≤ l.length ∧ x.2.1 < 4294967296 ∧ x.2.2.length = x.1 ∧ mulG 4294967296 m c l = x.2.2 ++ mulG 4294967296 m x.2.1 (l.drop x.1)) (fun x => l.length - x.1) (0, c, []) ⟨Nat.zero_le _, hc, rfl, rfl⟩
    ⟨⟨rfl, rfl, ?_, rfl, rfl, rfl, trivial⟩, ⟨⟨_, _, rfl, rfl, fun i hi => absurd hi (Nat.not_lt_zero _)⟩, trivial⟩, rfl, by rw [hX]; intro k hk; cases hk⟩ ?_
  · show D.i .u64 (IntKind.u64.wrap (c : Int)) = .i .u64 (c : Int)
    rw [wrap_u64']
    congr 1
    omega
  rintro ⟨i, cy, out⟩ ⟨g1, g2, g3, g4⟩
  dsimp only at g1 g2 g3 g4 ⊢
  have hw := getD_lt hl (by omega) i
  generalize hwe : l.getD i 0 = w at hw
  have hmul : w * m ≤ 18446744065119617025 := Nat.mul_le_mul (show w ≤ 4294967295 by omega) (show m ≤ 4294967295 by omega)
  have hs : IntKind.u64.wrap ((cy : Int) + IntKind.u64.wrap (IntKind.u64.wrap (l.getD (i : Int).toNat 0 : Nat) * IntKind.u64.wrap (m : Int))) = ((cy + w * m : Nat) : Int) := by
    rw [Int.toNat_natCast, hwe]
    simp only [wrap_u64']
    rw [show ((w : Nat) : Int) % 18446744073709551616 = w by omega, show ((m : Nat) : Int) % 18446744073709551616 = m by omega, ← Int.natCast_mul]
    omega
  have e32 : (2 : Int) ^ Int.toNat 32 = 4294967296 := by decide
  repeat' (first
    | with_reducible refine t_seq ?_ | with_reducible refine t_region ?_ | with_reducible refine c_nil ?_ | with_reducible refine n_then ?_
    | with_reducible refine t_ret ?_ | with_reducible refine t_skip ?_ | with_reducible refine t_exit ?_ | with_reducible refine t_block ?_
    | with_reducible refine n_block ?_ | with_reducible refine e_then ?_ | with_reducible refine x_then ?_ | with_reducible refine x_block ?_ | with_reducible refine t_draw ?_
    | refine r_val rfl rfl True.intro ?_ | refine r_gskip rfl rfl rfl ?_ | refine r_gskip2 rfl rfl rfl ?_ | refine r_gval rfl rfl rfl rfl True.intro ?_
    | refine t_true rfl ?_ | refine t_false rfl ?_
    | ((first | refine t_cond_d rfl (fun _ => ?_) (fun _ => ?_) | refine t_cond_i rfl (fun _ => ?_) (fun _ => ?_) | refine t_cond_j rfl (fun _ => ?_) (fun _ => ?_) | refine t_cond_s rfl (fun _ => ?_) (fun _ => ?_) | refine t_cond_n rfl (fun _ => ?_) (fun _ => ?_) | refine t_cond rfl (fun _ => ?_) (fun _ => ?_) | refine c_split_d rfl rfl (fun _ => ?_) (fun _ => ?_) | refine c_split_i rfl rfl (fun _ => ?_) (fun _ => ?_) | refine c_split_j rfl rfl (fun _ => ?_) (fun _ => ?_) | refine c_split_s rfl rfl (fun _ => ?_) (fun _ => ?_) | refine c_split_n rfl rfl (fun _ => ?_) (fun _ => ?_)) <;> try (first | contradiction | (exfalso; omega)))
    | refine r_val rfl rfl (by (first | omega | exact Nat.le_of_ble_eq_true rfl | (simp only [wrap_u8, IntKind.wrap_i64, IntKind.wrap_i32, wrap_u32', wrap_u64', InI]; (repeat' refine And.intro ?_ ?_) <;> omega) | ((repeat' refine And.intro ?_ ?_) <;> first | omega | rfl | exact Nat.le_refl _ | exact Nat.le_of_ble_eq_true rfl | exact bytesF_one _) | (simp_all; done) | (simp_all; omega))) ?_ | refine r_gval rfl rfl rfl rfl (by (first | omega | exact Nat.le_of_ble_eq_true rfl | (simp only [wrap_u8, IntKind.wrap_i64, IntKind.wrap_i32, wrap_u32', wrap_u64', InI]; (repeat' refine And.intro ?_ ?_) <;> omega) | ((repeat' refine And.intro ?_ ?_) <;> first | omega | rfl | exact Nat.le_refl _ | exact Nat.le_of_ble_eq_true rfl | exact bytesF_one _) | (simp_all; done) | (simp_all; omega))) ?_
    | refine r_obj rfl rfl (by (first | omega | exact Nat.le_of_ble_eq_true rfl | (simp only [wrap_u8, IntKind.wrap_i64, IntKind.wrap_i32, wrap_u32', wrap_u64', InI]; (repeat' refine And.intro ?_ ?_) <;> omega) | ((repeat' refine And.intro ?_ ?_) <;> first | omega | rfl | exact Nat.le_refl _ | exact Nat.le_of_ble_eq_true rfl | exact bytesF_one _) | (simp_all; done) | (simp_all; omega))) ?_ | refine r_sto rfl (by (first | omega | exact Nat.le_of_ble_eq_true rfl | (simp only [wrap_u8, IntKind.wrap_i64, IntKind.wrap_i32, wrap_u32', wrap_u64', InI]; (repeat' refine And.intro ?_ ?_) <;> omega) | ((repeat' refine And.intro ?_ ?_) <;> first | omega | rfl | exact Nat.le_refl _ | exact Nat.le_of_ble_eq_true rfl | exact bytesF_one _) | (simp_all; done) | (simp_all; omega))) ?_ | refine r_gobj rfl rfl rfl rfl (by (first | omega | exact Nat.le_of_ble_eq_true rfl | (simp only [wrap_u8, IntKind.wrap_i64, IntKind.wrap_i32, wrap_u32', wrap_u64', InI]; (repeat' refine And.intro ?_ ?_) <;> omega) | ((repeat' refine And.intro ?_ ?_) <;> first | omega | rfl | exact Nat.le_refl _ | exact Nat.le_of_ble_eq_true rfl | exact bytesF_one _) | (simp_all; done) | (simp_all; omega))) ?_
    | refine e_hit rfl ?_ | refine e_miss rfl ?_
    | refine ⟨by kernel_rfl, ?_⟩ | refine x_endF [6] 14 rfl ⟨rfl, trivial⟩ rfl ?_ | ((with_reducible refine c_grd ?_); (fail_if_success (refine c_lit true rfl rfl rfl ?_)); (fail_if_success (refine c_lit false rfl rfl rfl ?_)); refine c_split rfl rfl (fun _ => ?_) (fun _ => ?_)))
  · have hi : i < l.length := by omega
    refine ⟨(i + 1, (cy + w * m) / 4294967296, out ++ [(cy + w * m) % 4294967296]), ⟨by dsimp only; omega, carry_lt (by omega) g2 hw, by simp [g3], ?_⟩, by dsimp only; omega,
      ⟨rfl, rfl, by rw [hs, e32]; rfl, rfl, rfl, rfl, trivial⟩, ⟨⟨_, _, rfl, rfl, fun j _ => ?_⟩, trivial⟩, rfl, by rw [hX]; intro k hk; cases hk⟩
    · rw [g4, drop_getD hi, hwe, mulG]
      simp
    · refine WL.of_eq (congrFun (catF_w1 .u32 out i _ _ g3.symm ?_) j)
      show [D.i .u32 (IntKind.u32.wrap _)] = _
      rw [hs, wrap_u32']
      rfl
  · rename_i h1 h2
    refine Weak.of_eq ?_
    have e : mulG 4294967296 m c l = out ++ [cy] := by
      rw [g4, List.drop_eq_nil_of_le (by omega), mulG, if_pos (by omega)]
    rw [e]
    refine slW_snoc .u32 out i cy _ g3.symm ?_
    show [D.i .u32 (IntKind.u32.wrap _)] = _
    rw [wrap_u32 _ (by omega) (by omega)]
  · rename_i h1 h2
    refine Weak.of_eq ?_
    have e : mulG 4294967296 m c l = out := by
      rw [g4, List.drop_eq_nil_of_le (by omega), mulG, if_neg (by omega), List.append_nil]
    rw [e, ← g3]

end Go.Proofs.Ytenkmfahcmahkaa.Flow
