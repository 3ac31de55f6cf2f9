/- UTF: a code point's bytes are appended. -/
import Derived.Test.YtenkmfahcmahkaaDoorU0
namespace Go.Proofs.YtenkmfahcmahkaaDoor.Flow
open Go

/-- A code point's bytes. -/
def utfB (n : Int) : List UInt8 :=
  if n < 128 then [by8 n] else if n < 2048 then [by8 (192 + n / 64), by8 (128 + n % 64)]
  else if n < 65536 then [by8 (224 + n / 4096), by8 (128 + n / 64 % 64), by8 (128 + n % 64)]
  else [by8 (240 + n / 262144), by8 (128 + n / 4096 % 64), by8 (128 + n / 64 % 64), by8 (128 + n % 64)]

theorem utfB_len (n : Int) : (utfB n).length ≤ 4 := by
  unfold utfB
  split
  · simp
  · split
    · simp
    · split <;> simp

theorem tail6 (x : Int) (h : 0 ≤ x) : bits .or .u8 128 (bits .and .u8 (IntKind.u8.wrap x) 63) = ((by8 (128 + x % 64)).toNat : Int) := by
  rw [wrap_u8, and63 _ (by omega) (by omega), or128 _ (by omega) (by omega), by8_nat _ (by omega) (by omega)]
  omega
theorem head2 (x : Int) (h : 0 ≤ x) (h2 : x < 32) : bits .or .u8 192 (IntKind.u8.wrap x) = ((by8 (192 + x)).toNat : Int) := by
  rw [wrap_u8, or192 _ (by omega) (by omega), by8_nat _ (by omega) (by omega)]
  omega
theorem head3 (x : Int) (h : 0 ≤ x) (h2 : x < 16) : bits .or .u8 224 (IntKind.u8.wrap x) = ((by8 (224 + x)).toNat : Int) := by
  rw [wrap_u8, or224 _ (by omega) (by omega), by8_nat _ (by omega) (by omega)]
  omega
theorem head4 (x : Int) (h : 0 ≤ x) (h2 : x < 8) : bits .or .u8 240 (IntKind.u8.wrap x) = ((by8 (240 + x)).toNat : Int) := by
  rw [wrap_u8, or240 _ (by omega) (by omega), by8_nat _ (by omega) (by omega)]
  omega

theorem utfB_1 {r : Int} (h : r < 128) : utfB r = [by8 r] := if_pos h
theorem utfB_2 {r : Int} (h0 : 128 ≤ r) (h : r < 2048) : utfB r = [by8 (192 + r / 64), by8 (128 + r % 64)] := by
  unfold utfB
  rw [if_neg (by omega), if_pos h]
theorem utfB_3 {r : Int} (h0 : 2048 ≤ r) (h : r < 65536) : utfB r = [by8 (224 + r / 4096), by8 (128 + r / 64 % 64), by8 (128 + r % 64)] := by
  unfold utfB
  rw [if_neg (by omega), if_neg (by omega), if_pos h]
theorem utfB_4 {r : Int} (h0 : 65536 ≤ r) : utfB r = [by8 (240 + r / 262144), by8 (128 + r / 4096 % 64), by8 (128 + r / 64 % 64), by8 (128 + r % 64)] := by
  unfold utfB
  rw [if_neg (by omega), if_neg (by omega), if_neg (by omega)]

theorem p6 : (2 : Int) ^ Int.toNat 6 = 64 := by decide
theorem p12 : (2 : Int) ^ Int.toNat 12 = 4096 := by decide
theorem p18 : (2 : Int) ^ Int.toNat 18 = 262144 := by decide

set_option maxHeartbeats 2000000 in
theorem rune0_ctr (o : List UInt8) (r : Int) (ho : o.length ≤ 1099511627776) (h0 : 128 ≤ r) (h1 : r ≤ 1114111) (h2 : r < 55296 ∨ 57343 < r) :
    CtrO Tryd.prog 107 [.gs 200 1 o.length (bytesF o), .i .i32 r] [(200, .row 5 1 o.length)] (.gs 200 1 (o ++ utfB r).length (bytesF (o ++ utfB r))) [(200, .row 5 1 (o ++ utfB r).length)] := by
  have hw : IntKind.u32.wrap r = r := wrap_u32 r (by omega) (by omega)
  refine r_methM Tryd.func107 rfl Tryd.ntmps107 Tryd.results107 rfl rfl rfl rfl rfl fun X hL hX => ?_
  repeat' (first
    | with_reducible refine t_seq ?_ | with_reducible refine t_region ?_ | with_reducible refine c_nil ?_ | with_reducible refine n_then ?_
    | with_reducible refine t_ret ?_ | with_reducible refine t_skip ?_ | with_reducible refine t_exit ?_ | with_reducible refine t_block ?_
    | with_reducible refine n_block ?_ | with_reducible refine e_then ?_ | with_reducible refine x_then ?_ | with_reducible refine x_block ?_ | with_reducible refine t_draw ?_
    | refine r_val rfl rfl True.intro ?_ | refine r_gskip rfl rfl rfl ?_ | refine r_gskip2 rfl rfl rfl ?_ | refine r_gval rfl rfl rfl rfl True.intro ?_
    | refine t_true rfl ?_ | refine t_false rfl ?_
    | ((first | refine t_cond_d rfl (fun _ => ?_) (fun _ => ?_) | refine t_cond_i rfl (fun _ => ?_) (fun _ => ?_) | refine t_cond_j rfl (fun _ => ?_) (fun _ => ?_) | refine t_cond_s rfl (fun _ => ?_) (fun _ => ?_) | refine t_cond_n rfl (fun _ => ?_) (fun _ => ?_) | refine t_cond rfl (fun _ => ?_) (fun _ => ?_) | refine c_split_d rfl rfl (fun _ => ?_) (fun _ => ?_) | refine c_split_i rfl rfl (fun _ => ?_) (fun _ => ?_) | refine c_split_j rfl rfl (fun _ => ?_) (fun _ => ?_) | refine c_split_s rfl rfl (fun _ => ?_) (fun _ => ?_) | refine c_split_n rfl rfl (fun _ => ?_) (fun _ => ?_)) <;> try (first | contradiction | (exfalso; omega)))
    | refine r_val rfl rfl (by (first | omega | exact Nat.le_of_ble_eq_true rfl | (simp only [wrap_u8, IntKind.wrap_i64, IntKind.wrap_i32, wrap_u32', wrap_u64', InI]; (repeat' refine And.intro ?_ ?_) <;> omega) | ((repeat' refine And.intro ?_ ?_) <;> first | omega | rfl | exact Nat.le_refl _ | exact Nat.le_of_ble_eq_true rfl | exact bytesF_one _) | (simp_all; done) | (simp_all; omega))) ?_ | refine r_gval rfl rfl rfl rfl (by (first | omega | exact Nat.le_of_ble_eq_true rfl | (simp only [wrap_u8, IntKind.wrap_i64, IntKind.wrap_i32, wrap_u32', wrap_u64', InI]; (repeat' refine And.intro ?_ ?_) <;> omega) | ((repeat' refine And.intro ?_ ?_) <;> first | omega | rfl | exact Nat.le_refl _ | exact Nat.le_of_ble_eq_true rfl | exact bytesF_one _) | (simp_all; done) | (simp_all; omega))) ?_
    | refine r_obj rfl rfl (by (first | omega | exact Nat.le_of_ble_eq_true rfl | (simp only [wrap_u8, IntKind.wrap_i64, IntKind.wrap_i32, wrap_u32', wrap_u64', InI]; (repeat' refine And.intro ?_ ?_) <;> omega) | ((repeat' refine And.intro ?_ ?_) <;> first | omega | rfl | exact Nat.le_refl _ | exact Nat.le_of_ble_eq_true rfl | exact bytesF_one _) | (simp_all; done) | (simp_all; omega))) ?_ | refine r_sto rfl (by (first | omega | exact Nat.le_of_ble_eq_true rfl | (simp only [wrap_u8, IntKind.wrap_i64, IntKind.wrap_i32, wrap_u32', wrap_u64', InI]; (repeat' refine And.intro ?_ ?_) <;> omega) | ((repeat' refine And.intro ?_ ?_) <;> first | omega | rfl | exact Nat.le_refl _ | exact Nat.le_of_ble_eq_true rfl | exact bytesF_one _) | (simp_all; done) | (simp_all; omega))) ?_ | refine r_gobj rfl rfl rfl rfl (by (first | omega | exact Nat.le_of_ble_eq_true rfl | (simp only [wrap_u8, IntKind.wrap_i64, IntKind.wrap_i32, wrap_u32', wrap_u64', InI]; (repeat' refine And.intro ?_ ?_) <;> omega) | ((repeat' refine And.intro ?_ ?_) <;> first | omega | rfl | exact Nat.le_refl _ | exact Nat.le_of_ble_eq_true rfl | exact bytesF_one _) | (simp_all; done) | (simp_all; omega))) ?_
    | refine e_hit rfl ?_ | refine e_miss rfl ?_
    | refine ⟨by kernel_rfl, ?_⟩ | refine x_endM rfl ?_ ?_ | refine n_endM rfl ?_ ?_ | ((with_reducible refine c_grd ?_); (fail_if_success (refine c_lit true rfl rfl rfl ?_)); (fail_if_success (refine c_lit false rfl rfl rfl ?_)); refine c_split rfl rfl (fun _ => ?_) (fun _ => ?_)))
  · rw [utfB_2 h0 (by omega), p6]
    exact gs_bytes 200 o _ 2 _ rfl (fun i hi => match i, hi with
      | 0, _ => congrArg (fun z => [D.i .u8 z]) (head2 _ (by omega) (by omega))
      | 1, _ => congrArg (fun z => [D.i .u8 z]) (tail6 _ (by omega)))
  · rw [utfB_2 h0 (by omega)]
    exact ⟨⟨by rw [List.length_append]; rfl, trivial⟩⟩
  · rw [utfB_3 (by omega) (by omega), p6, p12]
    exact gs_bytes 200 o _ 3 _ rfl (fun i hi => match i, hi with
      | 0, _ => congrArg (fun z => [D.i .u8 z]) (head3 _ (by omega) (by omega))
      | 1, _ => congrArg (fun z => [D.i .u8 z]) (tail6 _ (by omega))
      | 2, _ => congrArg (fun z => [D.i .u8 z]) (tail6 _ (by omega)))
  · rw [utfB_3 (by omega) (by omega)]
    exact ⟨⟨by rw [List.length_append]; rfl, trivial⟩⟩
  · rw [utfB_3 (by omega) (by omega), p6, p12]
    exact gs_bytes 200 o _ 3 _ rfl (fun i hi => match i, hi with
      | 0, _ => congrArg (fun z => [D.i .u8 z]) (head3 _ (by omega) (by omega))
      | 1, _ => congrArg (fun z => [D.i .u8 z]) (tail6 _ (by omega))
      | 2, _ => congrArg (fun z => [D.i .u8 z]) (tail6 _ (by omega)))
  · rw [utfB_3 (by omega) (by omega)]
    exact ⟨⟨by rw [List.length_append]; rfl, trivial⟩⟩
  · rw [utfB_4 (by omega), p6, p12, p18]
    exact gs_bytes 200 o _ 4 _ rfl (fun i hi => match i, hi with
      | 0, _ => congrArg (fun z => [D.i .u8 z]) (head4 _ (by omega) (by omega))
      | 1, _ => congrArg (fun z => [D.i .u8 z]) (tail6 _ (by omega))
      | 2, _ => congrArg (fun z => [D.i .u8 z]) (tail6 _ (by omega))
      | 3, _ => congrArg (fun z => [D.i .u8 z]) (tail6 _ (by omega)))
  · rw [utfB_4 (by omega)]
    exact ⟨⟨by rw [List.length_append]; rfl, trivial⟩⟩

theorem rune_ctr (o : List UInt8) (r : Int) (ho : o.length ≤ 1099511627776) (h0 : 0 ≤ r) (h1 : r ≤ 1114111) (h2 : r < 55296 ∨ 57343 < r) :
    CtrO Tryd.prog 87 [.gs 200 1 o.length (bytesF o), .i .i32 r] [(200, .row 5 1 o.length)] (.gs 200 1 (o ++ utfB r).length (bytesF (o ++ utfB r))) [(200, .row 5 1 (o ++ utfB r).length)] := by
  have hw : IntKind.u32.wrap r = r := wrap_u32 r (by omega) (by omega)
  refine r_methM Tryd.func87 rfl Tryd.ntmps87 Tryd.results87 rfl rfl rfl rfl rfl fun X hL hX => ?_
  repeat' (first
    | with_reducible refine t_seq ?_ | with_reducible refine t_region ?_ | with_reducible refine c_nil ?_ | with_reducible refine n_then ?_
    | with_reducible refine t_ret ?_ | with_reducible refine t_skip ?_ | with_reducible refine t_exit ?_ | with_reducible refine t_block ?_
    | with_reducible refine n_block ?_ | with_reducible refine e_then ?_ | with_reducible refine x_then ?_ | with_reducible refine x_block ?_ | with_reducible refine t_draw ?_
    | refine r_val rfl rfl True.intro ?_ | refine r_gskip rfl rfl rfl ?_ | refine r_gskip2 rfl rfl rfl ?_ | refine r_gval rfl rfl rfl rfl True.intro ?_
    | refine t_true rfl ?_ | refine t_false rfl ?_
    | ((first | refine t_cond_d rfl (fun _ => ?_) (fun _ => ?_) | refine t_cond_i rfl (fun _ => ?_) (fun _ => ?_) | refine t_cond_j rfl (fun _ => ?_) (fun _ => ?_) | refine t_cond_s rfl (fun _ => ?_) (fun _ => ?_) | refine t_cond_n rfl (fun _ => ?_) (fun _ => ?_) | refine t_cond rfl (fun _ => ?_) (fun _ => ?_) | refine c_split_d rfl rfl (fun _ => ?_) (fun _ => ?_) | refine c_split_i rfl rfl (fun _ => ?_) (fun _ => ?_) | refine c_split_j rfl rfl (fun _ => ?_) (fun _ => ?_) | refine c_split_s rfl rfl (fun _ => ?_) (fun _ => ?_) | refine c_split_n rfl rfl (fun _ => ?_) (fun _ => ?_)) <;> try (first | contradiction | (exfalso; omega)))
    | refine r_val rfl rfl (by (first | omega | exact Nat.le_of_ble_eq_true rfl | (simp only [wrap_u8, IntKind.wrap_i64, IntKind.wrap_i32, wrap_u32', wrap_u64', InI]; (repeat' refine And.intro ?_ ?_) <;> omega) | ((repeat' refine And.intro ?_ ?_) <;> first | omega | rfl | exact Nat.le_refl _ | exact Nat.le_of_ble_eq_true rfl | exact bytesF_one _) | (simp_all; done) | (simp_all; omega))) ?_ | refine r_gval rfl rfl rfl rfl (by (first | omega | exact Nat.le_of_ble_eq_true rfl | (simp only [wrap_u8, IntKind.wrap_i64, IntKind.wrap_i32, wrap_u32', wrap_u64', InI]; (repeat' refine And.intro ?_ ?_) <;> omega) | ((repeat' refine And.intro ?_ ?_) <;> first | omega | rfl | exact Nat.le_refl _ | exact Nat.le_of_ble_eq_true rfl | exact bytesF_one _) | (simp_all; done) | (simp_all; omega))) ?_
    | refine r_obj rfl rfl (by (first | omega | exact Nat.le_of_ble_eq_true rfl | (simp only [wrap_u8, IntKind.wrap_i64, IntKind.wrap_i32, wrap_u32', wrap_u64', InI]; (repeat' refine And.intro ?_ ?_) <;> omega) | ((repeat' refine And.intro ?_ ?_) <;> first | omega | rfl | exact Nat.le_refl _ | exact Nat.le_of_ble_eq_true rfl | exact bytesF_one _) | (simp_all; done) | (simp_all; omega))) ?_ | refine r_sto rfl (by (first | omega | exact Nat.le_of_ble_eq_true rfl | (simp only [wrap_u8, IntKind.wrap_i64, IntKind.wrap_i32, wrap_u32', wrap_u64', InI]; (repeat' refine And.intro ?_ ?_) <;> omega) | ((repeat' refine And.intro ?_ ?_) <;> first | omega | rfl | exact Nat.le_refl _ | exact Nat.le_of_ble_eq_true rfl | exact bytesF_one _) | (simp_all; done) | (simp_all; omega))) ?_ | refine r_gobj rfl rfl rfl rfl (by (first | omega | exact Nat.le_of_ble_eq_true rfl | (simp only [wrap_u8, IntKind.wrap_i64, IntKind.wrap_i32, wrap_u32', wrap_u64', InI]; (repeat' refine And.intro ?_ ?_) <;> omega) | ((repeat' refine And.intro ?_ ?_) <;> first | omega | rfl | exact Nat.le_refl _ | exact Nat.le_of_ble_eq_true rfl | exact bytesF_one _) | (simp_all; done) | (simp_all; omega))) ?_
    | refine e_hit rfl ?_ | refine e_miss rfl ?_
    | refine ⟨by kernel_rfl, ?_⟩ | refine x_endM rfl ?_ ?_ | refine n_endM rfl ?_ ?_ | refine r_lend1 (f := 107) 200 rfl rfl Tryd.call107 rfl rfl rfl rfl rfl (rune0_ctr o r ho (by omega) h1 h2) ?_ | ((with_reducible refine c_grd ?_); (fail_if_success (refine c_lit true rfl rfl rfl ?_)); (fail_if_success (refine c_lit false rfl rfl rfl ?_)); refine c_split rfl rfl (fun _ => ?_) (fun _ => ?_)))
  · rw [utfB_1 (by omega)]
    exact gs_bytes 200 o _ 1 _ rfl (fun i hi => match i, hi with
      | 0, _ => congrArg (fun z => [D.i .u8 z]) (show IntKind.u8.wrap r = ((by8 r).toNat : Int) by rw [wrap_u8, by8_nat _ h0 (by omega)]; omega))
  · rw [utfB_1 (by omega)]
    exact ⟨⟨by rw [List.length_append]; rfl, trivial⟩⟩
  · rfl
  · exact ⟨⟨rfl, trivial⟩⟩

end Go.Proofs.YtenkmfahcmahkaaDoor.Flow
