import Derived.Test.YtenkmfahcmahkaaDoorU16
/- UTF: the program: a text as JSON writes it. -/
namespace Go.Proofs.YtenkmfahcmahkaaDoor.Flow
open Go

theorem catF_pt {n m : Nat} {b xs : List UInt8} {f g : Nat → List D} (hn : n = b.length) (hm : m = xs.length) (hf : ∀ j, j < n → f j = bytesF b j) (hg : ∀ j, j < m → g j = bytesF xs j) : ∀ j, j < n + m → catF n f m g j = bytesF (b ++ xs) j := by
  subst hn hm
  intro j hj
  unfold catF
  by_cases h : j < b.length
  · rw [if_pos h, hf j h]
    simp [bytesF, List.getD_eq_getElem?_getD, h, List.getElem?_append_left]
  · rw [if_neg h, if_pos hj, hg _ (by omega)]
    simp [bytesF, List.getD_eq_getElem?_getD, List.getElem?_append_right (show b.length ≤ j by omega)]

theorem bytesOf_pt {n : Nat} {b : List UInt8} {f : Nat → List D} (hn : n = b.length) (hf : ∀ j, j < n → f j = bytesF b j) : bytesOf n f = b := by
  subst hn
  refine Eq.trans ?_ (bytesOf_bytesF b)
  unfold bytesOf
  apply List.map_congr_left
  intro j hj
  rw [hf j (by simpa using hj)]

abbrev hexS16 : List UInt8 := ({ data := #[48, 49, 50, 51, 52, 53, 54, 55, 56, 57, 97, 98, 99, 100, 101, 102] } : ByteArray).data.toList

theorem hexS_D (n : Int) (h0 : 0 ≤ n) (h1 : n < 16) : at' hexS16 n = ((hexD n).toNat : Int) := by
  obtain ⟨n, rfl⟩ := Int.eq_ofNat_of_zero_le h0
  rw [hexS n (by omega)]
  unfold hexD
  rw [by8_nat _ (by split <;> omega) (by split <;> omega)]

theorem p4 : (2 : Int) ^ Int.toNat 4 = 16 := by decide

set_option maxRecDepth 100000 in
theorem and_15 : ∀ x : Fin 256, bits .and .u8 ((x.val : Nat) : Int) 15 = ((x.val % 16 : Nat) : Int) := by decide
theorem and15 (n : Int) (h : 0 ≤ n) (h2 : n < 256) : bits .and .u8 n 15 = n % 16 := by
  have := and_15 ⟨n.toNat, by omega⟩
  simp only at this
  rw [show ((n.toNat : Nat) : Int) = n by omega] at this
  rw [this]
  omega

section
variable {n : Int}
theorem qI_8 (h : n = 8) : qI n = [92, 98] := if_pos h
theorem qI_9 (h : n = 9) : qI n = [92, 116] := by subst h; rfl
theorem qI_10 (h : n = 10) : qI n = [92, 110] := by subst h; rfl
theorem qI_12 (h : n = 12) : qI n = [92, 102] := by subst h; rfl
theorem qI_13 (h : n = 13) : qI n = [92, 114] := by subst h; rfl
theorem qI_34 (h : n = 34) : qI n = [92, 34] := by subst h; rfl
theorem qI_92 (h : n = 92) : qI n = [92, 92] := by subst h; rfl
theorem qI_low (c8 : ¬ n = 8) (c9 : ¬ n = 9) (c10 : ¬ n = 10) (c12 : ¬ n = 12) (c13 : ¬ n = 13) (h : n < 32) : qI n = [92, 117, 48, 48, hexD (n / 16), hexD (n % 16)] := by
  unfold qI
  rw [if_neg c8, if_neg c9, if_neg c10, if_neg c12, if_neg c13, if_neg (by omega), if_neg (by omega), if_pos h]
theorem qI_one (c34 : ¬ n = 34) (c92 : ¬ n = 92) (h : ¬ n < 32) : qI n = [by8 n] := by
  unfold qI
  rw [if_neg (by omega), if_neg (by omega), if_neg (by omega), if_neg (by omega), if_neg (by omega), if_neg c34, if_neg c92, if_neg h]
end

theorem pt1 {a : Int} {x : UInt8} (h : a = (x.toNat : Int)) : ∀ j, j < 1 → chunk 1 [.i .u8 a] j = bytesF [x] j := fun j hj => by
  subst h
  match j, hj with
  | 0, _ => rfl
theorem pt2 {a b : Int} {x y : UInt8} (h : a = (x.toNat : Int)) (h2 : b = (y.toNat : Int)) : ∀ j, j < 2 → chunk 1 [.i .u8 a, .i .u8 b] j = bytesF [x, y] j := fun j hj => by
  subst h h2
  match j, hj with
  | 0, _ => rfl
  | 1, _ => rfl
theorem pt5 {a b c d e : Int} {x y z u v : UInt8} (h : a = (x.toNat : Int)) (h2 : b = (y.toNat : Int)) (h3 : c = (z.toNat : Int)) (h4 : d = (u.toNat : Int)) (h5 : e = (v.toNat : Int)) : ∀ j, j < 5 → chunk 1 [.i .u8 a, .i .u8 b, .i .u8 c, .i .u8 d, .i .u8 e] j = bytesF [x, y, z, u, v] j := fun j hj => by
  subst h h2 h3 h4 h5
  match j, hj with
  | 0, _ => rfl
  | 1, _ => rfl
  | 2, _ => rfl
  | 3, _ => rfl
  | 4, _ => rfl

set_option maxHeartbeats 2000000 in
theorem quote_ctr (s : List UInt8) (hs : s.length ≤ 1048576) : Ctr Tryd.prog 20 [.s s] (.s (quoteL s)) := by
  have cv := valid_ctr s (by omega)
  unfold quoteL
  cases hv : validL s with
  | false =>
    rw [hv] at cv
    clear hv
    refine r_fun Tryd.func20 rfl Tryd.ntmps20 Tryd.results20 rfl rfl fun X hL hX => ?_
    repeat' (first
      | with_reducible refine t_seq ?_ | with_reducible refine t_region ?_ | with_reducible refine c_nil ?_ | with_reducible refine n_then ?_
      | with_reducible refine t_ret ?_ | with_reducible refine t_skip ?_ | with_reducible refine t_exit ?_ | with_reducible refine t_block ?_
      | with_reducible refine n_block ?_ | with_reducible refine e_then ?_ | with_reducible refine x_then ?_ | with_reducible refine x_block ?_ | with_reducible refine t_draw ?_
      | refine r_val rfl rfl True.intro ?_ | refine r_gskip rfl rfl rfl ?_ | refine r_gskip2 rfl rfl rfl ?_ | refine r_gval rfl rfl rfl rfl True.intro ?_
      | refine t_true rfl ?_ | refine t_false rfl ?_
      | ((first | refine t_cond_d rfl (fun _ => ?_) (fun _ => ?_) | refine t_cond_i rfl (fun _ => ?_) (fun _ => ?_) | refine t_cond_j rfl (fun _ => ?_) (fun _ => ?_) | refine t_cond_s rfl (fun _ => ?_) (fun _ => ?_) | refine t_cond_n rfl (fun _ => ?_) (fun _ => ?_) | refine t_cond rfl (fun _ => ?_) (fun _ => ?_) | refine c_split_d rfl rfl (fun _ => ?_) (fun _ => ?_) | refine c_split_i rfl rfl (fun _ => ?_) (fun _ => ?_) | refine c_split_j rfl rfl (fun _ => ?_) (fun _ => ?_) | refine c_split_s rfl rfl (fun _ => ?_) (fun _ => ?_) | refine c_split_n rfl rfl (fun _ => ?_) (fun _ => ?_)) <;> try (first | (rename_i hz; exact Bool.noConfusion (show true = false from hz)) | (rename_i hz; exact Bool.noConfusion (show false = true from hz)) | (exfalso; omega)))
      | refine r_val rfl rfl (by (first | omega | exact Nat.le_of_ble_eq_true rfl | (simp only [wrap_u8, IntKind.wrap_i64, IntKind.wrap_i32, wrap_u32', wrap_u64', InI]; (repeat' refine And.intro ?_ ?_) <;> omega) | ((repeat' refine And.intro ?_ ?_) <;> first | omega | rfl | exact Nat.le_refl _ | exact Nat.le_of_ble_eq_true rfl | exact bytesF_one _) | (simp_all; done) | (simp_all; omega))) ?_ | refine r_gval rfl rfl rfl rfl (by (first | omega | exact Nat.le_of_ble_eq_true rfl | (simp only [wrap_u8, IntKind.wrap_i64, IntKind.wrap_i32, wrap_u32', wrap_u64', InI]; (repeat' refine And.intro ?_ ?_) <;> omega) | ((repeat' refine And.intro ?_ ?_) <;> first | omega | rfl | exact Nat.le_refl _ | exact Nat.le_of_ble_eq_true rfl | exact bytesF_one _) | (simp_all; done) | (simp_all; omega))) ?_
      | refine r_obj rfl rfl (by (first | omega | exact Nat.le_of_ble_eq_true rfl | (simp only [wrap_u8, IntKind.wrap_i64, IntKind.wrap_i32, wrap_u32', wrap_u64', InI]; (repeat' refine And.intro ?_ ?_) <;> omega) | ((repeat' refine And.intro ?_ ?_) <;> first | omega | rfl | exact Nat.le_refl _ | exact Nat.le_of_ble_eq_true rfl | exact bytesF_one _) | (simp_all; done) | (simp_all; omega))) ?_ | refine r_sto rfl (by (first | omega | exact Nat.le_of_ble_eq_true rfl | (simp only [wrap_u8, IntKind.wrap_i64, IntKind.wrap_i32, wrap_u32', wrap_u64', InI]; (repeat' refine And.intro ?_ ?_) <;> omega) | ((repeat' refine And.intro ?_ ?_) <;> first | omega | rfl | exact Nat.le_refl _ | exact Nat.le_of_ble_eq_true rfl | exact bytesF_one _) | (simp_all; done) | (simp_all; omega))) ?_ | refine r_gobj rfl rfl rfl rfl (by (first | omega | exact Nat.le_of_ble_eq_true rfl | (simp only [wrap_u8, IntKind.wrap_i64, IntKind.wrap_i32, wrap_u32', wrap_u64', InI]; (repeat' refine And.intro ?_ ?_) <;> omega) | ((repeat' refine And.intro ?_ ?_) <;> first | omega | rfl | exact Nat.le_refl _ | exact Nat.le_of_ble_eq_true rfl | exact bytesF_one _) | (simp_all; done) | (simp_all; omega))) ?_
      | refine e_hit rfl ?_ | refine e_miss rfl ?_
      | refine ⟨by kernel_rfl, ?_⟩ | refine x_end rfl ?_ | refine r_call (f := 13) rfl rfl Tryd.call13 rfl cv ?_ | ((with_reducible refine c_grd ?_); (fail_if_success (refine c_lit true rfl rfl rfl ?_)); (fail_if_success (refine c_lit false rfl rfl rfl ?_)); refine c_split rfl rfl (fun _ => ?_) (fun _ => ?_)))
    rfl
  | true =>
    rw [hv] at cv
    clear hv
    rw [if_pos rfl]
    refine r_fun Tryd.func20 rfl Tryd.ntmps20 Tryd.results20 rfl rfl fun X hL hX => ?_
    repeat' (first
      | with_reducible refine t_seq ?_ | with_reducible refine t_region ?_ | with_reducible refine c_nil ?_ | with_reducible refine n_then ?_
      | with_reducible refine t_ret ?_ | with_reducible refine t_skip ?_ | with_reducible refine t_exit ?_ | with_reducible refine t_block ?_
      | with_reducible refine n_block ?_ | with_reducible refine e_then ?_ | with_reducible refine x_then ?_ | with_reducible refine x_block ?_ | with_reducible refine t_draw ?_
      | refine r_val rfl rfl True.intro ?_ | refine r_gskip rfl rfl rfl ?_ | refine r_gskip2 rfl rfl rfl ?_ | refine r_gval rfl rfl rfl rfl True.intro ?_
      | refine t_true rfl ?_ | refine t_false rfl ?_
      | ((first | refine t_cond_d rfl (fun _ => ?_) (fun _ => ?_) | refine t_cond_i rfl (fun _ => ?_) (fun _ => ?_) | refine t_cond_j rfl (fun _ => ?_) (fun _ => ?_) | refine t_cond_s rfl (fun _ => ?_) (fun _ => ?_) | refine t_cond_n rfl (fun _ => ?_) (fun _ => ?_) | refine t_cond rfl (fun _ => ?_) (fun _ => ?_) | refine c_split_d rfl rfl (fun _ => ?_) (fun _ => ?_) | refine c_split_i rfl rfl (fun _ => ?_) (fun _ => ?_) | refine c_split_j rfl rfl (fun _ => ?_) (fun _ => ?_) | refine c_split_s rfl rfl (fun _ => ?_) (fun _ => ?_) | refine c_split_n rfl rfl (fun _ => ?_) (fun _ => ?_)) <;> try (first | (rename_i hz; exact Bool.noConfusion (show true = false from hz)) | (rename_i hz; exact Bool.noConfusion (show false = true from hz)) | (exfalso; omega)))
      | refine r_val rfl rfl (by (first | omega | exact Nat.le_of_ble_eq_true rfl | (simp only [wrap_u8, IntKind.wrap_i64, IntKind.wrap_i32, wrap_u32', wrap_u64', InI]; (repeat' refine And.intro ?_ ?_) <;> omega) | ((repeat' refine And.intro ?_ ?_) <;> first | omega | rfl | exact Nat.le_refl _ | exact Nat.le_of_ble_eq_true rfl | exact bytesF_one _) | (simp_all; done) | (simp_all; omega))) ?_ | refine r_gval rfl rfl rfl rfl (by (first | omega | exact Nat.le_of_ble_eq_true rfl | (simp only [wrap_u8, IntKind.wrap_i64, IntKind.wrap_i32, wrap_u32', wrap_u64', InI]; (repeat' refine And.intro ?_ ?_) <;> omega) | ((repeat' refine And.intro ?_ ?_) <;> first | omega | rfl | exact Nat.le_refl _ | exact Nat.le_of_ble_eq_true rfl | exact bytesF_one _) | (simp_all; done) | (simp_all; omega))) ?_
      | refine r_obj rfl rfl (by (first | omega | exact Nat.le_of_ble_eq_true rfl | (simp only [wrap_u8, IntKind.wrap_i64, IntKind.wrap_i32, wrap_u32', wrap_u64', InI]; (repeat' refine And.intro ?_ ?_) <;> omega) | ((repeat' refine And.intro ?_ ?_) <;> first | omega | rfl | exact Nat.le_refl _ | exact Nat.le_of_ble_eq_true rfl | exact bytesF_one _) | (simp_all; done) | (simp_all; omega))) ?_ | refine r_sto rfl (by (first | omega | exact Nat.le_of_ble_eq_true rfl | (simp only [wrap_u8, IntKind.wrap_i64, IntKind.wrap_i32, wrap_u32', wrap_u64', InI]; (repeat' refine And.intro ?_ ?_) <;> omega) | ((repeat' refine And.intro ?_ ?_) <;> first | omega | rfl | exact Nat.le_refl _ | exact Nat.le_of_ble_eq_true rfl | exact bytesF_one _) | (simp_all; done) | (simp_all; omega))) ?_ | refine r_gobj rfl rfl rfl rfl (by (first | omega | exact Nat.le_of_ble_eq_true rfl | (simp only [wrap_u8, IntKind.wrap_i64, IntKind.wrap_i32, wrap_u32', wrap_u64', InI]; (repeat' refine And.intro ?_ ?_) <;> omega) | ((repeat' refine And.intro ?_ ?_) <;> first | omega | rfl | exact Nat.le_refl _ | exact Nat.le_of_ble_eq_true rfl | exact bytesF_one _) | (simp_all; done) | (simp_all; omega))) ?_
      | refine e_hit rfl ?_ | refine e_miss rfl ?_
      | refine ⟨by kernel_rfl, ?_⟩ | refine x_end rfl ?_ | refine r_call (f := 13) rfl rfl Tryd.call13 rfl cv ?_ | ((with_reducible refine c_grd ?_); (fail_if_success (refine c_lit true rfl rfl rfl ?_)); (fail_if_success (refine c_lit false rfl rfl rfl ?_)); refine c_split rfl rfl (fun _ => ?_) (fun _ => ?_)))
    refine T.loop hL (fun x : Nat × List UInt8 × (Nat → List D) => [(0, .s s), (3, .gs 9 1 x.2.1.length x.2.2), (11, .i .i64 s.length), (12, .i .i64 x.1)]) (fun x => [(9, .row 5 1 x.2.1.length)])
      (fun x => x.1 ≤ s.length ∧ x.2.1 = [34] ++ qL (s.take x.1) ∧ ∀ j, j < x.2.1.length → x.2.2 j = bytesF x.2.1 j) (fun x => s.length - x.1) (0, [34], chunk 1 [.i .u8 34]) ⟨Nat.zero_le _, rfl, pt1 rfl⟩
      ⟨⟨rfl, rfl, rfl, rfl, trivial⟩, ⟨rfl, trivial⟩, rfl, by rw [hX]; intro k hk; cases hk⟩ ?_
    rintro ⟨i, b, f⟩ ⟨g1, g2, g3⟩
    dsimp only at g1 g2 g3 ⊢
    have hb : b.length ≤ 6 * i + 1 := by
      have := qL_len (s.take i)
      rw [g2, List.length_append]
      have : (s.take i).length ≤ i := by simp; omega
      simp
      omega
    have done : ∀ (fr : Fr) (ow : Ow) (xs : List UInt8) (n : Nat) (f' : Nat → List D), getD' 0 fr = .s s → getD' 3 fr = .gs 9 1 n f' → getD' 11 fr = .i .i64 s.length → getD' 12 fr = .i .i64 (i + 1) → leOw ow [(9, .row 5 1 n)] → i < s.length → qI (at' s i) = xs → n = b.length + xs.length →
        (∀ j, j < b.length + xs.length → f' j = bytesF (b ++ xs) j) →
        ∃ y : Nat × List UInt8 × (Nat → List D), (y.1 ≤ s.length ∧ y.2.1 = [34] ++ qL (s.take y.1) ∧ ∀ j, j < y.2.1.length → y.2.2 j = bytesF y.2.1 j) ∧ s.length - y.1 < s.length - i ∧
          Le X fr ow [(0, .s s), (3, .gs 9 1 y.2.1.length y.2.2), (11, .i .i64 s.length), (12, .i .i64 y.1)] [(9, .row 5 1 y.2.1.length)] := by
      intro fr ow xs n f' q1 q2 q3 q4 q5 q6 q7 q8 q9
      subst q8
      have hl : b.length + xs.length = (b ++ xs).length := List.length_append.symm
      rw [hl] at q9 q5 q2
      exact ⟨(i + 1, b ++ xs, f'), ⟨by dsimp only; omega, by dsimp only; rw [qL_take s i q6, q7, g2, List.append_assoc], q9⟩, by dsimp only; omega, ⟨q1, q2, q3, q4, trivial⟩, q5, rfl, by rw [hX]; intro k hk; cases hk⟩
    have l1 : hexS16.length = 16 := rfl
    have hr := at_range s i
    have e4 := p4
    have e15 := and15 _ hr.1 hr.2
    have g3 := fun _ : Unit => g3
    have low : Unit → ∀ j, j < b.length + 6 → catF (b.length + 5) (catF b.length f 5 (chunk 1 [.i .u8 92, .i .u8 117, .i .u8 48, .i .u8 48, .i .u8 (at' hexS16 (at' s i / 2 ^ Int.toNat 4))])) 1 (chunk 1 [.i .u8 (at' hexS16 (bits .and .u8 (at' s i) 15))]) j = bytesF (b ++ [92, 117, 48, 48, hexD (at' s i / 16), hexD (at' s i % 16)]) j := fun _ => by
      have h5 := pt5 (a := 92) (b := 117) (c := 48) (d := 48) (e := at' hexS16 (at' s i / 2 ^ Int.toNat 4)) (x := 92) (y := 117) (z := 48) (u := 48) (v := hexD (at' s i / 16)) rfl rfl rfl rfl (by rw [e4]; exact hexS_D _ (by omega) (by omega))
      have h1 := pt1 (a := at' hexS16 (bits .and .u8 (at' s i) 15)) (x := hexD (at' s i % 16)) (by rw [e15]; exact hexS_D _ (by omega) (by omega))
      have := catF_pt (b := b ++ [92, 117, 48, 48, hexD (at' s i / 16)]) (n := b.length + 5) (m := 1) (xs := [hexD (at' s i % 16)]) (by simp) rfl (catF_pt (m := 5) rfl rfl (g3 ()) h5) h1
      rw [List.append_assoc] at this
      exact this
    have two : ∀ x : UInt8, at' s i = (x.toNat : Int) → ∀ j, j < b.length + 2 → catF (b.length + 1) (catF b.length f 1 (chunk 1 [.i .u8 92])) 1 (chunk 1 [.i .u8 (at' s i)]) j = bytesF (b ++ [92, x]) j := fun x hx => by
      have := catF_pt (b := b ++ [92]) (n := b.length + 1) (m := 1) (xs := [x]) (by simp) rfl (catF_pt (m := 1) rfl rfl (g3 ()) (pt1 (a := 92) (x := 92) rfl)) (pt1 (a := at' s i) (x := x) hx)
      rw [List.append_assoc] at this
      exact this
    by_cases hi : i < s.length
    ·
      repeat' (first
        | with_reducible refine t_seq ?_ | with_reducible refine t_region ?_ | with_reducible refine c_nil ?_ | with_reducible refine n_then ?_
        | with_reducible refine t_ret ?_ | with_reducible refine t_skip ?_ | with_reducible refine t_exit ?_ | with_reducible refine t_block ?_
        | with_reducible refine n_block ?_ | with_reducible refine e_then ?_ | with_reducible refine x_then ?_ | with_reducible refine x_block ?_ | with_reducible refine t_draw ?_
        | refine r_val rfl rfl True.intro ?_ | refine r_gskip rfl rfl rfl ?_ | refine r_gskip2 rfl rfl rfl ?_ | refine r_gval rfl rfl rfl rfl True.intro ?_
        | refine t_true rfl ?_ | refine t_false rfl ?_
        | ((first | refine t_cond_d rfl (fun _ => ?_) (fun _ => ?_) | refine t_cond_i rfl (fun _ => ?_) (fun _ => ?_) | refine t_cond_j rfl (fun _ => ?_) (fun _ => ?_) | refine t_cond_s rfl (fun _ => ?_) (fun _ => ?_) | refine t_cond_n rfl (fun _ => ?_) (fun _ => ?_) | refine t_cond rfl (fun _ => ?_) (fun _ => ?_) | refine c_split_d rfl rfl (fun _ => ?_) (fun _ => ?_) | refine c_split_i rfl rfl (fun _ => ?_) (fun _ => ?_) | refine c_split_j rfl rfl (fun _ => ?_) (fun _ => ?_) | refine c_split_s rfl rfl (fun _ => ?_) (fun _ => ?_) | refine c_split_n rfl rfl (fun _ => ?_) (fun _ => ?_)) <;> try (first | (rename_i hz; exact Bool.noConfusion (show true = false from hz)) | (rename_i hz; exact Bool.noConfusion (show false = true from hz)) | (exfalso; omega)))
        | refine r_val rfl rfl (by (first | (rw [e4]; (repeat' refine And.intro ?_ ?_) <;> omega) | (rw [e15]; (repeat' refine And.intro ?_ ?_) <;> omega) | omega | exact Nat.le_of_ble_eq_true rfl | (simp only [wrap_u8, IntKind.wrap_i64, IntKind.wrap_i32, wrap_u32', wrap_u64', InI]; (repeat' refine And.intro ?_ ?_) <;> omega) | ((repeat' refine And.intro ?_ ?_) <;> first | omega | rfl | exact Nat.le_refl _ | exact Nat.le_of_ble_eq_true rfl | exact bytesF_one _) | (simp_all; done) | (simp_all; omega))) ?_ | refine r_gval rfl rfl rfl rfl (by (first | (rw [e4]; (repeat' refine And.intro ?_ ?_) <;> omega) | (rw [e15]; (repeat' refine And.intro ?_ ?_) <;> omega) | omega | exact Nat.le_of_ble_eq_true rfl | (simp only [wrap_u8, IntKind.wrap_i64, IntKind.wrap_i32, wrap_u32', wrap_u64', InI]; (repeat' refine And.intro ?_ ?_) <;> omega) | ((repeat' refine And.intro ?_ ?_) <;> first | omega | rfl | exact Nat.le_refl _ | exact Nat.le_of_ble_eq_true rfl | exact bytesF_one _) | (simp_all; done) | (simp_all; omega))) ?_
        | refine r_obj rfl rfl (by (first | (rw [e4]; (repeat' refine And.intro ?_ ?_) <;> omega) | (rw [e15]; (repeat' refine And.intro ?_ ?_) <;> omega) | omega | exact Nat.le_of_ble_eq_true rfl | (simp only [wrap_u8, IntKind.wrap_i64, IntKind.wrap_i32, wrap_u32', wrap_u64', InI]; (repeat' refine And.intro ?_ ?_) <;> omega) | ((repeat' refine And.intro ?_ ?_) <;> first | omega | rfl | exact Nat.le_refl _ | exact Nat.le_of_ble_eq_true rfl | exact bytesF_one _) | (simp_all; done) | (simp_all; omega))) ?_ | refine r_sto rfl (by (first | (rw [e4]; (repeat' refine And.intro ?_ ?_) <;> omega) | (rw [e15]; (repeat' refine And.intro ?_ ?_) <;> omega) | omega | exact Nat.le_of_ble_eq_true rfl | (simp only [wrap_u8, IntKind.wrap_i64, IntKind.wrap_i32, wrap_u32', wrap_u64', InI]; (repeat' refine And.intro ?_ ?_) <;> omega) | ((repeat' refine And.intro ?_ ?_) <;> first | omega | rfl | exact Nat.le_refl _ | exact Nat.le_of_ble_eq_true rfl | exact bytesF_one _) | (simp_all; done) | (simp_all; omega))) ?_ | refine r_gobj rfl rfl rfl rfl (by (first | (rw [e4]; (repeat' refine And.intro ?_ ?_) <;> omega) | (rw [e15]; (repeat' refine And.intro ?_ ?_) <;> omega) | omega | exact Nat.le_of_ble_eq_true rfl | (simp only [wrap_u8, IntKind.wrap_i64, IntKind.wrap_i32, wrap_u32', wrap_u64', InI]; (repeat' refine And.intro ?_ ?_) <;> omega) | ((repeat' refine And.intro ?_ ?_) <;> first | omega | rfl | exact Nat.le_refl _ | exact Nat.le_of_ble_eq_true rfl | exact bytesF_one _) | (simp_all; done) | (simp_all; omega))) ?_
        | refine e_hit rfl ?_ | refine e_miss rfl ?_
        | refine ⟨by kernel_rfl, ?_⟩ | refine x_end rfl ?_ | ((with_reducible refine c_grd ?_); (fail_if_success (refine c_lit true rfl rfl rfl ?_)); (fail_if_success (refine c_lit false rfl rfl rfl ?_)); refine c_split rfl rfl (fun _ => ?_) (fun _ => ?_)))
      all_goals first
        | exact done _ _ [92, 98] _ _ rfl rfl rfl rfl ⟨rfl, trivial⟩ hi (qI_8 (by assumption)) rfl (catF_pt rfl rfl (g3 ()) (pt2 rfl rfl))
        | exact done _ _ [92, 116] _ _ rfl rfl rfl rfl ⟨rfl, trivial⟩ hi (qI_9 (by assumption)) rfl (catF_pt rfl rfl (g3 ()) (pt2 rfl rfl))
        | exact done _ _ [92, 110] _ _ rfl rfl rfl rfl ⟨rfl, trivial⟩ hi (qI_10 (by assumption)) rfl (catF_pt rfl rfl (g3 ()) (pt2 rfl rfl))
        | exact done _ _ [92, 102] _ _ rfl rfl rfl rfl ⟨rfl, trivial⟩ hi (qI_12 (by assumption)) rfl (catF_pt rfl rfl (g3 ()) (pt2 rfl rfl))
        | exact done _ _ [92, 114] _ _ rfl rfl rfl rfl ⟨rfl, trivial⟩ hi (qI_13 (by assumption)) rfl (catF_pt rfl rfl (g3 ()) (pt2 rfl rfl))
        | exact done _ _ [by8 (at' s i)] _ _ rfl rfl rfl rfl ⟨rfl, trivial⟩ hi (qI_one (by assumption) (by assumption) (by assumption)) rfl (catF_pt rfl rfl (g3 ()) (pt1 (by8_nat _ hr.1 hr.2).symm))
        | exact done _ _ [92, 117, 48, 48, hexD (at' s i / 16), hexD (at' s i % 16)] _ _ rfl rfl rfl rfl ⟨rfl, trivial⟩ hi (qI_low (by assumption) (by assumption) (by assumption) (by assumption) (by assumption) (by assumption)) rfl (low ())
        | exact done _ _ [92, 34] _ _ rfl rfl rfl rfl ⟨rfl, trivial⟩ hi (qI_34 (by assumption)) rfl (two 34 (by assumption))
        | exact done _ _ [92, 92] _ _ rfl rfl rfl rfl ⟨rfl, trivial⟩ hi (qI_92 (by assumption)) rfl (two 92 (by assumption))
    · have hfin := catF_pt (b := b) (m := 1) (xs := [34]) rfl rfl (g3 ()) (pt1 (a := 34) rfl)
      have hfin2 : ∀ j, j < b.length + 1 → ∃ n, catF b.length f 1 (chunk 1 [.i .u8 34]) j = [.i .u8 n] := fun j hj => ⟨_, hfin j hj⟩
      have hfin := fun _ : Unit => hfin
      have g2 := fun _ : Unit => g2
      clear done low two
      repeat' (first
        | with_reducible refine t_seq ?_ | with_reducible refine t_region ?_ | with_reducible refine c_nil ?_ | with_reducible refine n_then ?_
        | with_reducible refine t_ret ?_ | with_reducible refine t_skip ?_ | with_reducible refine t_exit ?_ | with_reducible refine t_block ?_
        | with_reducible refine n_block ?_ | with_reducible refine e_then ?_ | with_reducible refine x_then ?_ | with_reducible refine x_block ?_ | with_reducible refine t_draw ?_
        | refine r_val rfl rfl True.intro ?_ | refine r_gskip rfl rfl rfl ?_ | refine r_gskip2 rfl rfl rfl ?_ | refine r_gval rfl rfl rfl rfl True.intro ?_
        | refine t_true rfl ?_ | refine t_false rfl ?_
        | ((first | refine t_cond_d rfl (fun _ => ?_) (fun _ => ?_) | refine t_cond_i rfl (fun _ => ?_) (fun _ => ?_) | refine t_cond_j rfl (fun _ => ?_) (fun _ => ?_) | refine t_cond_s rfl (fun _ => ?_) (fun _ => ?_) | refine t_cond_n rfl (fun _ => ?_) (fun _ => ?_) | refine t_cond rfl (fun _ => ?_) (fun _ => ?_) | refine c_split_d rfl rfl (fun _ => ?_) (fun _ => ?_) | refine c_split_i rfl rfl (fun _ => ?_) (fun _ => ?_) | refine c_split_j rfl rfl (fun _ => ?_) (fun _ => ?_) | refine c_split_s rfl rfl (fun _ => ?_) (fun _ => ?_) | refine c_split_n rfl rfl (fun _ => ?_) (fun _ => ?_)) <;> try (first | (rename_i hz; exact Bool.noConfusion (show true = false from hz)) | (rename_i hz; exact Bool.noConfusion (show false = true from hz)) | (exfalso; omega)))
        | refine r_val rfl rfl (by (first | exact ⟨rfl, hfin2⟩ | omega | exact Nat.le_of_ble_eq_true rfl | (simp only [wrap_u8, IntKind.wrap_i64, IntKind.wrap_i32, wrap_u32', wrap_u64', InI]; (repeat' refine And.intro ?_ ?_) <;> omega) | ((repeat' refine And.intro ?_ ?_) <;> first | omega | rfl | exact Nat.le_refl _ | exact Nat.le_of_ble_eq_true rfl | exact bytesF_one _) | (simp_all; done) | (simp_all; omega))) ?_ | refine r_gval rfl rfl rfl rfl (by (first | exact ⟨rfl, hfin2⟩ | omega | exact Nat.le_of_ble_eq_true rfl | (simp only [wrap_u8, IntKind.wrap_i64, IntKind.wrap_i32, wrap_u32', wrap_u64', InI]; (repeat' refine And.intro ?_ ?_) <;> omega) | ((repeat' refine And.intro ?_ ?_) <;> first | omega | rfl | exact Nat.le_refl _ | exact Nat.le_of_ble_eq_true rfl | exact bytesF_one _) | (simp_all; done) | (simp_all; omega))) ?_
        | refine r_obj rfl rfl (by (first | exact ⟨rfl, hfin2⟩ | omega | exact Nat.le_of_ble_eq_true rfl | (simp only [wrap_u8, IntKind.wrap_i64, IntKind.wrap_i32, wrap_u32', wrap_u64', InI]; (repeat' refine And.intro ?_ ?_) <;> omega) | ((repeat' refine And.intro ?_ ?_) <;> first | omega | rfl | exact Nat.le_refl _ | exact Nat.le_of_ble_eq_true rfl | exact bytesF_one _) | (simp_all; done) | (simp_all; omega))) ?_ | refine r_sto rfl (by (first | exact ⟨rfl, hfin2⟩ | omega | exact Nat.le_of_ble_eq_true rfl | (simp only [wrap_u8, IntKind.wrap_i64, IntKind.wrap_i32, wrap_u32', wrap_u64', InI]; (repeat' refine And.intro ?_ ?_) <;> omega) | ((repeat' refine And.intro ?_ ?_) <;> first | omega | rfl | exact Nat.le_refl _ | exact Nat.le_of_ble_eq_true rfl | exact bytesF_one _) | (simp_all; done) | (simp_all; omega))) ?_ | refine r_gobj rfl rfl rfl rfl (by (first | exact ⟨rfl, hfin2⟩ | omega | exact Nat.le_of_ble_eq_true rfl | (simp only [wrap_u8, IntKind.wrap_i64, IntKind.wrap_i32, wrap_u32', wrap_u64', InI]; (repeat' refine And.intro ?_ ?_) <;> omega) | ((repeat' refine And.intro ?_ ?_) <;> first | omega | rfl | exact Nat.le_refl _ | exact Nat.le_of_ble_eq_true rfl | exact bytesF_one _) | (simp_all; done) | (simp_all; omega))) ?_
        | refine e_hit rfl ?_ | refine e_miss rfl ?_
        | refine ⟨by kernel_rfl, ?_⟩ | refine x_end rfl ?_ | ((with_reducible refine c_grd ?_); (fail_if_success (refine c_lit true rfl rfl rfl ?_)); (fail_if_success (refine c_lit false rfl rfl rfl ?_)); refine c_split rfl rfl (fun _ => ?_) (fun _ => ?_)))
      rw [bytesOf_pt (n := b.length + 1) (b := b ++ [34]) (by simp) (hfin ()), g2 (), List.take_of_length_le (by omega)]

end Go.Proofs.YtenkmfahcmahkaaDoor.Flow
