/- The texts U17, DO, D6, D10, D14, LibsI, one behind the other. -/
import Derived.Test.YtbegohehjkjnmaaGreatDoorJZ12
import Derived.Test.YtbegohehjkjnmaaGreatDoorJZ13
import Derived.Test.YtbegohehjkjnmaaGreatDoorJZ22
import Derived.Lib.Bytealg
import Derived.Lib.Small
import Derived.Lib.Repeat
namespace Go.Proofs.YtbegohehjkjnmaaGreatDoor.Flow
open Go

theorem catF_pt {n m : Nat} {b xs : List UInt8} {f g : Nat → List D} (hn : n = b.length) (hm : m = xs.length) (hf : ∀ j, j < n → f j = bytesF b j) (hg : ∀ j, j < m → g j = bytesF xs j) : ∀ j, j < n + m → catF n f m g j = bytesF (b ++ xs) j := by
  subst hn hm
  intro j hj
  unfold catF
  by_cases h : j < b.length
  · rw [if_pos h, hf j h]
    simp [bytesF, List.getD_eq_getElem?_getD, h, List.getElem?_append_left]
  · rw [if_neg h, if_pos hj, hg _ (by omega)]
    simp [bytesF, List.getD_eq_getElem?_getD, List.getElem?_append_right (show b.length ≤ j by omega)]

theorem bytesOf_pt {n : Nat} {b : List UInt8} {f : Nat → List D} (hn : n = b.length) (hf : ∀ j, j < n → f j = bytesF b j) : bytesOf n f = b := by
  subst hn
  refine Eq.trans ?_ (bytesOf_bytesF b)
  unfold bytesOf
  apply List.map_congr_left
  intro j hj
  rw [hf j (by simpa using hj)]

abbrev hexS16 : List UInt8 := ({ data := #[48, 49, 50, 51, 52, 53, 54, 55, 56, 57, 97, 98, 99, 100, 101, 102] } : ByteArray).data.toList

theorem hexS_D (n : Int) (h0 : 0 ≤ n) (h1 : n < 16) : at' hexS16 n = ((hexD n).toNat : Int) := by
  obtain ⟨n, rfl⟩ := Int.eq_ofNat_of_zero_le h0
  rw [hexS n (by omega)]
  unfold hexD
  rw [by8_nat _ (by split <;> omega) (by split <;> omega)]

theorem p4 : (2 : Int) ^ Int.toNat 4 = 16 := by decide

set_option maxRecDepth 100000 in
theorem and_15 : ∀ x : Fin 256, bits .and .u8 ((x.val : Nat) : Int) 15 = ((x.val % 16 : Nat) : Int) := by decide
theorem and15 (n : Int) (h : 0 ≤ n) (h2 : n < 256) : bits .and .u8 n 15 = n % 16 := by
  have := and_15 ⟨n.toNat, by omega⟩
  simp only at this
  rw [show ((n.toNat : Nat) : Int) = n by omega] at this
  rw [this]
  omega

section
variable {n : Int}
theorem qI_8 (h : n = 8) : qI n = [92, 98] := if_pos h
theorem qI_9 (h : n = 9) : qI n = [92, 116] := by subst h; rfl
theorem qI_10 (h : n = 10) : qI n = [92, 110] := by subst h; rfl
theorem qI_12 (h : n = 12) : qI n = [92, 102] := by subst h; rfl
theorem qI_13 (h : n = 13) : qI n = [92, 114] := by subst h; rfl
theorem qI_34 (h : n = 34) : qI n = [92, 34] := by subst h; rfl
theorem qI_92 (h : n = 92) : qI n = [92, 92] := by subst h; rfl
theorem qI_low (c8 : ¬ n = 8) (c9 : ¬ n = 9) (c10 : ¬ n = 10) (c12 : ¬ n = 12) (c13 : ¬ n = 13) (h : n < 32) : qI n = [92, 117, 48, 48, hexD (n / 16), hexD (n % 16)] := by
  unfold qI
  rw [if_neg c8, if_neg c9, if_neg c10, if_neg c12, if_neg c13, if_neg (by omega), if_neg (by omega), if_pos h]
theorem qI_one (c34 : ¬ n = 34) (c92 : ¬ n = 92) (h : ¬ n < 32) : qI n = [by8 n] := by
  unfold qI
  rw [if_neg (by omega), if_neg (by omega), if_neg (by omega), if_neg (by omega), if_neg (by omega), if_neg c34, if_neg c92, if_neg h]
end

theorem pt1 {a : Int} {x : UInt8} (h : a = (x.toNat : Int)) : ∀ j, j < 1 → chunk 1 [.i .u8 a] j = bytesF [x] j := fun j hj => by
  subst h
  match j, hj with
  | 0, _ => rfl
theorem pt2 {a b : Int} {x y : UInt8} (h : a = (x.toNat : Int)) (h2 : b = (y.toNat : Int)) : ∀ j, j < 2 → chunk 1 [.i .u8 a, .i .u8 b] j = bytesF [x, y] j := fun j hj => by
  subst h h2
  match j, hj with
  | 0, _ => rfl
  | 1, _ => rfl
theorem pt5 {a b c d e : Int} {x y z u v : UInt8} (h : a = (x.toNat : Int)) (h2 : b = (y.toNat : Int)) (h3 : c = (z.toNat : Int)) (h4 : d = (u.toNat : Int)) (h5 : e = (v.toNat : Int)) : ∀ j, j < 5 → chunk 1 [.i .u8 a, .i .u8 b, .i .u8 c, .i .u8 d, .i .u8 e] j = bytesF [x, y, z, u, v] j := fun j hj => by
  subst h h2 h3 h4 h5
  match j, hj with
  | 0, _ => rfl
  | 1, _ => rfl
  | 2, _ => rfl
  | 3, _ => rfl
  | 4, _ => rfl

set_option maxHeartbeats 2000000 in
theorem quote_ctr (s : List UInt8) (hs : s.length ≤ 1048576) : Ctr Tryz.prog 25 [.s s] (.s (quoteL s)) := by
  have cv := valid_ctr s (by omega)
  unfold quoteL
  cases hv : validL s with
  | false =>
    rw [hv] at cv
    clear hv
    refine r_fun Tryz.func25 rfl Tryz.ntmps25 Tryz.results25 rfl rfl fun X hL hX => ?_
    repeat' (first | with_reducible (first | refine t_seq ?_ | refine t_region ?_ | refine c_nil ?_ | refine n_then ?_ | refine t_ret ?_ | refine t_skip ?_ | refine t_exit ?_ | refine t_block ?_ | refine n_block ?_ | refine e_then ?_ | refine x_then ?_ | refine x_block ?_ | refine t_draw ?_) | refine r_val rfl rfl True.intro ?_ | refine r_gskip rfl rfl rfl ?_ | refine r_gskip2 rfl rfl rfl ?_ | refine r_gval rfl rfl rfl rfl True.intro ?_ | refine t_true rfl ?_ | refine t_false rfl ?_ | ((first | refine t_cond_d rfl ?_ ?_ | refine t_cond_i rfl ?_ ?_ | refine t_cond_j rfl ?_ ?_ | refine t_cond_s rfl ?_ ?_ | refine t_cond_n rfl ?_ ?_ | refine t_cond rfl ?_ ?_ | refine c_split_d rfl rfl ?_ ?_ | refine c_split_i rfl rfl ?_ ?_ | refine c_split_j rfl rfl ?_ ?_ | refine c_split_s rfl rfl ?_ ?_ | refine c_split_n rfl rfl ?_ ?_) <;> intro <;> try (first | (rename_i hz; exact Bool.noConfusion (show true = false from hz)) | (rename_i hz; exact Bool.noConfusion (show false = true from hz)) | (exfalso; omega))) | ((first | refine r_val rfl rfl ?_ ?_ | refine r_gval rfl rfl rfl rfl ?_ ?_ | refine r_obj rfl rfl ?_ ?_ | refine r_sto rfl ?_ ?_ | refine r_gobj rfl rfl rfl rfl ?_ ?_); focus (first | omega | exact Nat.le_of_ble_eq_true rfl | ((repeat first | rw [wrap_u8] | rw [IntKind.wrap_i64] | rw [IntKind.wrap_i32] | rw [wrap_u32'] | rw [wrap_u64']); (repeat' refine And.intro ?_ ?_) <;> omega) | ((repeat' refine And.intro ?_ ?_) <;> first | omega | rfl | exact Nat.le_refl _ | exact Nat.le_of_ble_eq_true rfl | exact bytesF_one _) | (simp_all; done) | (simp_all; omega))) | refine e_hit rfl ?_ | refine e_miss rfl ?_ | with_reducible refine ⟨by kernel_rfl, ?_⟩ | refine x_end rfl ?_ | refine r_call (f := 28) rfl rfl Tryz.call28 rfl cv ?_ | ((with_reducible refine c_grd ?_); (fail_if_success (refine c_lit true rfl rfl rfl ?_)); (fail_if_success (refine c_lit false rfl rfl rfl ?_)); refine c_split rfl rfl (fun _ => ?_) (fun _ => ?_)))
    rfl
  | true =>
    rw [hv] at cv
    clear hv
    rw [if_pos rfl]
    refine r_fun Tryz.func25 rfl Tryz.ntmps25 Tryz.results25 rfl rfl fun X hL hX => ?_
    repeat' (first | with_reducible (first | refine t_seq ?_ | refine t_region ?_ | refine c_nil ?_ | refine n_then ?_ | refine t_ret ?_ | refine t_skip ?_ | refine t_exit ?_ | refine t_block ?_ | refine n_block ?_ | refine e_then ?_ | refine x_then ?_ | refine x_block ?_ | refine t_draw ?_) | refine r_val rfl rfl True.intro ?_ | refine r_gskip rfl rfl rfl ?_ | refine r_gskip2 rfl rfl rfl ?_ | refine r_gval rfl rfl rfl rfl True.intro ?_ | refine t_true rfl ?_ | refine t_false rfl ?_ | ((first | refine t_cond_d rfl ?_ ?_ | refine t_cond_i rfl ?_ ?_ | refine t_cond_j rfl ?_ ?_ | refine t_cond_s rfl ?_ ?_ | refine t_cond_n rfl ?_ ?_ | refine t_cond rfl ?_ ?_ | refine c_split_d rfl rfl ?_ ?_ | refine c_split_i rfl rfl ?_ ?_ | refine c_split_j rfl rfl ?_ ?_ | refine c_split_s rfl rfl ?_ ?_ | refine c_split_n rfl rfl ?_ ?_) <;> intro <;> try (first | (rename_i hz; exact Bool.noConfusion (show true = false from hz)) | (rename_i hz; exact Bool.noConfusion (show false = true from hz)) | (exfalso; omega))) | ((first | refine r_val rfl rfl ?_ ?_ | refine r_gval rfl rfl rfl rfl ?_ ?_ | refine r_obj rfl rfl ?_ ?_ | refine r_sto rfl ?_ ?_ | refine r_gobj rfl rfl rfl rfl ?_ ?_); focus (first | omega | exact Nat.le_of_ble_eq_true rfl | ((repeat first | rw [wrap_u8] | rw [IntKind.wrap_i64] | rw [IntKind.wrap_i32] | rw [wrap_u32'] | rw [wrap_u64']); (repeat' refine And.intro ?_ ?_) <;> omega) | ((repeat' refine And.intro ?_ ?_) <;> first | omega | rfl | exact Nat.le_refl _ | exact Nat.le_of_ble_eq_true rfl | exact bytesF_one _) | (simp_all; done) | (simp_all; omega))) | refine e_hit rfl ?_ | refine e_miss rfl ?_ | with_reducible refine ⟨by kernel_rfl, ?_⟩ | refine x_end rfl ?_ | refine r_call (f := 28) rfl rfl Tryz.call28 rfl cv ?_ | ((with_reducible refine c_grd ?_); (fail_if_success (refine c_lit true rfl rfl rfl ?_)); (fail_if_success (refine c_lit false rfl rfl rfl ?_)); refine c_split rfl rfl (fun _ => ?_) (fun _ => ?_)))
    refine T.loop hL (fun x : Nat × List UInt8 × (Nat → List D) => [(0, .s s), (3, .gs 9 1 x.2.1.length x.2.2), (11, .i .i64 s.length), (12, .i .i64 x.1)]) (fun x => [(9, .row 5 1 x.2.1.length)])
      (fun x => x.1 ≤ s.length ∧ x.2.1 = [34] ++ qL (s.take x.1) ∧ ∀ j, j < x.2.1.length → x.2.2 j = bytesF x.2.1 j) (fun x => s.length - x.1) (0, [34], chunk 1 [.i .u8 34]) ⟨Nat.zero_le _, rfl, pt1 rfl⟩
      ⟨⟨rfl, rfl, rfl, rfl, trivial⟩, ⟨rfl, trivial⟩, rfl, by rw [hX]; intro k hk; cases hk⟩ ?_
    rintro ⟨i, b, f⟩ ⟨g1, g2, g3⟩
    dsimp only at g1 g2 g3 ⊢
    have hb : b.length ≤ 6 * i + 1 := by
      have := qL_len (s.take i)
      rw [g2, List.length_append]
      have : (s.take i).length ≤ i := by simp; omega
      simp
      omega
    have done : ∀ (fr : Fr) (ow : Ow) (xs : List UInt8) (n : Nat) (f' : Nat → List D), getD' 0 fr = .s s → getD' 3 fr = .gs 9 1 n f' → getD' 11 fr = .i .i64 s.length → getD' 12 fr = .i .i64 (i + 1) → leOw ow [(9, .row 5 1 n)] → i < s.length → qI (at' s i) = xs → n = b.length + xs.length →
        (∀ j, j < b.length + xs.length → f' j = bytesF (b ++ xs) j) →
        ∃ y : Nat × List UInt8 × (Nat → List D), (y.1 ≤ s.length ∧ y.2.1 = [34] ++ qL (s.take y.1) ∧ ∀ j, j < y.2.1.length → y.2.2 j = bytesF y.2.1 j) ∧ s.length - y.1 < s.length - i ∧
          Le X fr ow [(0, .s s), (3, .gs 9 1 y.2.1.length y.2.2), (11, .i .i64 s.length), (12, .i .i64 y.1)] [(9, .row 5 1 y.2.1.length)] := by
      intro fr ow xs n f' q1 q2 q3 q4 q5 q6 q7 q8 q9
      subst q8
      have hl : b.length + xs.length = (b ++ xs).length := List.length_append.symm
      rw [hl] at q9 q5 q2
      exact ⟨(i + 1, b ++ xs, f'), ⟨by dsimp only; omega, by dsimp only; rw [qL_take s i q6, q7, g2, List.append_assoc], q9⟩, by dsimp only; omega, ⟨q1, q2, q3, q4, trivial⟩, q5, rfl, by rw [hX]; intro k hk; cases hk⟩
    have l1 : hexS16.length = 16 := rfl
    have hr := at_range s i
    have e4 := p4
    have e15 := and15 _ hr.1 hr.2
    have g3 := fun _ : Unit => g3
    have low : Unit → ∀ j, j < b.length + 6 → catF (b.length + 5) (catF b.length f 5 (chunk 1 [.i .u8 92, .i .u8 117, .i .u8 48, .i .u8 48, .i .u8 (at' hexS16 (at' s i / 2 ^ Int.toNat 4))])) 1 (chunk 1 [.i .u8 (at' hexS16 (bits .and .u8 (at' s i) 15))]) j = bytesF (b ++ [92, 117, 48, 48, hexD (at' s i / 16), hexD (at' s i % 16)]) j := fun _ => by
      have h5 := pt5 (a := 92) (b := 117) (c := 48) (d := 48) (e := at' hexS16 (at' s i / 2 ^ Int.toNat 4)) (x := 92) (y := 117) (z := 48) (u := 48) (v := hexD (at' s i / 16)) rfl rfl rfl rfl (by rw [e4]; exact hexS_D _ (by omega) (by omega))
      have h1 := pt1 (a := at' hexS16 (bits .and .u8 (at' s i) 15)) (x := hexD (at' s i % 16)) (by rw [e15]; exact hexS_D _ (by omega) (by omega))
      have := catF_pt (b := b ++ [92, 117, 48, 48, hexD (at' s i / 16)]) (n := b.length + 5) (m := 1) (xs := [hexD (at' s i % 16)]) (by simp) rfl (catF_pt (m := 5) rfl rfl (g3 ()) h5) h1
      rw [List.append_assoc] at this
      exact this
    have two : ∀ x : UInt8, at' s i = (x.toNat : Int) → ∀ j, j < b.length + 2 → catF (b.length + 1) (catF b.length f 1 (chunk 1 [.i .u8 92])) 1 (chunk 1 [.i .u8 (at' s i)]) j = bytesF (b ++ [92, x]) j := fun x hx => by
      have := catF_pt (b := b ++ [92]) (n := b.length + 1) (m := 1) (xs := [x]) (by simp) rfl (catF_pt (m := 1) rfl rfl (g3 ()) (pt1 (a := 92) (x := 92) rfl)) (pt1 (a := at' s i) (x := x) hx)
      rw [List.append_assoc] at this
      exact this
    by_cases hi : i < s.length
    ·
      repeat' (first | with_reducible (first | refine t_seq ?_ | refine t_region ?_ | refine c_nil ?_ | refine n_then ?_ | refine t_ret ?_ | refine t_skip ?_ | refine t_exit ?_ | refine t_block ?_ | refine n_block ?_ | refine e_then ?_ | refine x_then ?_ | refine x_block ?_ | refine t_draw ?_) | refine r_val rfl rfl True.intro ?_ | refine r_gskip rfl rfl rfl ?_ | refine r_gskip2 rfl rfl rfl ?_ | refine r_gval rfl rfl rfl rfl True.intro ?_ | refine t_true rfl ?_ | refine t_false rfl ?_ | ((first | refine t_cond_d rfl ?_ ?_ | refine t_cond_i rfl ?_ ?_ | refine t_cond_j rfl ?_ ?_ | refine t_cond_s rfl ?_ ?_ | refine t_cond_n rfl ?_ ?_ | refine t_cond rfl ?_ ?_ | refine c_split_d rfl rfl ?_ ?_ | refine c_split_i rfl rfl ?_ ?_ | refine c_split_j rfl rfl ?_ ?_ | refine c_split_s rfl rfl ?_ ?_ | refine c_split_n rfl rfl ?_ ?_) <;> intro <;> try (first | (rename_i hz; exact Bool.noConfusion (show true = false from hz)) | (rename_i hz; exact Bool.noConfusion (show false = true from hz)) | (exfalso; omega))) | ((first | refine r_val rfl rfl ?_ ?_ | refine r_gval rfl rfl rfl rfl ?_ ?_ | refine r_obj rfl rfl ?_ ?_ | refine r_sto rfl ?_ ?_ | refine r_gobj rfl rfl rfl rfl ?_ ?_); focus (first | (rw [e4]; (repeat' refine And.intro ?_ ?_) <;> omega) | (rw [e15]; (repeat' refine And.intro ?_ ?_) <;> omega) | omega | exact Nat.le_of_ble_eq_true rfl | ((repeat first | rw [wrap_u8] | rw [IntKind.wrap_i64] | rw [IntKind.wrap_i32] | rw [wrap_u32'] | rw [wrap_u64']); (repeat' refine And.intro ?_ ?_) <;> omega) | ((repeat' refine And.intro ?_ ?_) <;> first | omega | rfl | exact Nat.le_refl _ | exact Nat.le_of_ble_eq_true rfl | exact bytesF_one _) | (simp_all; done) | (simp_all; omega))) | refine e_hit rfl ?_ | refine e_miss rfl ?_ | with_reducible refine ⟨by kernel_rfl, ?_⟩ | refine x_end rfl ?_ | ((with_reducible refine c_grd ?_); (fail_if_success (refine c_lit true rfl rfl rfl ?_)); (fail_if_success (refine c_lit false rfl rfl rfl ?_)); refine c_split rfl rfl (fun _ => ?_) (fun _ => ?_)))
      all_goals first
        | exact done _ _ [92, 98] _ _ rfl rfl rfl rfl ⟨rfl, trivial⟩ hi (qI_8 (by assumption)) rfl (catF_pt rfl rfl (g3 ()) (pt2 rfl rfl))
        | exact done _ _ [92, 116] _ _ rfl rfl rfl rfl ⟨rfl, trivial⟩ hi (qI_9 (by assumption)) rfl (catF_pt rfl rfl (g3 ()) (pt2 rfl rfl))
        | exact done _ _ [92, 110] _ _ rfl rfl rfl rfl ⟨rfl, trivial⟩ hi (qI_10 (by assumption)) rfl (catF_pt rfl rfl (g3 ()) (pt2 rfl rfl))
        | exact done _ _ [92, 102] _ _ rfl rfl rfl rfl ⟨rfl, trivial⟩ hi (qI_12 (by assumption)) rfl (catF_pt rfl rfl (g3 ()) (pt2 rfl rfl))
        | exact done _ _ [92, 114] _ _ rfl rfl rfl rfl ⟨rfl, trivial⟩ hi (qI_13 (by assumption)) rfl (catF_pt rfl rfl (g3 ()) (pt2 rfl rfl))
        | exact done _ _ [by8 (at' s i)] _ _ rfl rfl rfl rfl ⟨rfl, trivial⟩ hi (qI_one (by assumption) (by assumption) (by assumption)) rfl (catF_pt rfl rfl (g3 ()) (pt1 (by8_nat _ hr.1 hr.2).symm))
        | exact done _ _ [92, 117, 48, 48, hexD (at' s i / 16), hexD (at' s i % 16)] _ _ rfl rfl rfl rfl ⟨rfl, trivial⟩ hi (qI_low (by assumption) (by assumption) (by assumption) (by assumption) (by assumption) (by assumption)) rfl (low ())
        | exact done _ _ [92, 34] _ _ rfl rfl rfl rfl ⟨rfl, trivial⟩ hi (qI_34 (by assumption)) rfl (two 34 (by assumption))
        | exact done _ _ [92, 92] _ _ rfl rfl rfl rfl ⟨rfl, trivial⟩ hi (qI_92 (by assumption)) rfl (two 92 (by assumption))
    · have hfin := catF_pt (b := b) (m := 1) (xs := [34]) rfl rfl (g3 ()) (pt1 (a := 34) rfl)
      have hfin2 : ∀ j, j < b.length + 1 → ∃ n, catF b.length f 1 (chunk 1 [.i .u8 34]) j = [.i .u8 n] := fun j hj => ⟨_, hfin j hj⟩
      have hfin := fun _ : Unit => hfin
      have g2 := fun _ : Unit => g2
      clear done low two
      repeat' (first | with_reducible (first | refine t_seq ?_ | refine t_region ?_ | refine c_nil ?_ | refine n_then ?_ | refine t_ret ?_ | refine t_skip ?_ | refine t_exit ?_ | refine t_block ?_ | refine n_block ?_ | refine e_then ?_ | refine x_then ?_ | refine x_block ?_ | refine t_draw ?_) | refine r_val rfl rfl True.intro ?_ | refine r_gskip rfl rfl rfl ?_ | refine r_gskip2 rfl rfl rfl ?_ | refine r_gval rfl rfl rfl rfl True.intro ?_ | refine t_true rfl ?_ | refine t_false rfl ?_ | ((first | refine t_cond_d rfl ?_ ?_ | refine t_cond_i rfl ?_ ?_ | refine t_cond_j rfl ?_ ?_ | refine t_cond_s rfl ?_ ?_ | refine t_cond_n rfl ?_ ?_ | refine t_cond rfl ?_ ?_ | refine c_split_d rfl rfl ?_ ?_ | refine c_split_i rfl rfl ?_ ?_ | refine c_split_j rfl rfl ?_ ?_ | refine c_split_s rfl rfl ?_ ?_ | refine c_split_n rfl rfl ?_ ?_) <;> intro <;> try (first | (rename_i hz; exact Bool.noConfusion (show true = false from hz)) | (rename_i hz; exact Bool.noConfusion (show false = true from hz)) | (exfalso; omega))) | ((first | refine r_val rfl rfl ?_ ?_ | refine r_gval rfl rfl rfl rfl ?_ ?_ | refine r_obj rfl rfl ?_ ?_ | refine r_sto rfl ?_ ?_ | refine r_gobj rfl rfl rfl rfl ?_ ?_); focus (first | exact ⟨rfl, hfin2⟩ | omega | exact Nat.le_of_ble_eq_true rfl | ((repeat first | rw [wrap_u8] | rw [IntKind.wrap_i64] | rw [IntKind.wrap_i32] | rw [wrap_u32'] | rw [wrap_u64']); (repeat' refine And.intro ?_ ?_) <;> omega) | ((repeat' refine And.intro ?_ ?_) <;> first | omega | rfl | exact Nat.le_refl _ | exact Nat.le_of_ble_eq_true rfl | exact bytesF_one _) | (simp_all; done) | (simp_all; omega))) | refine e_hit rfl ?_ | refine e_miss rfl ?_ | with_reducible refine ⟨by kernel_rfl, ?_⟩ | refine x_end rfl ?_ | ((with_reducible refine c_grd ?_); (fail_if_success (refine c_lit true rfl rfl rfl ?_)); (fail_if_success (refine c_lit false rfl rfl rfl ?_)); refine c_split rfl rfl (fun _ => ?_) (fun _ => ?_)))
      rw [bytesOf_pt (n := b.length + 1) (b := b ++ [34]) (by simp) (hfin ()), g2 (), List.take_of_length_le (by omega)]

end Go.Proofs.YtbegohehjkjnmaaGreatDoor.Flow

namespace Go.Proofs.YtbegohehjkjnmaaGreatDoor.Flow
open Go

def atF (s : List UInt8) (e p : Int) : Int := if (s.length : Int) - 1 - (p - e) < 0 ∨ (s.length : Int) ≤ s.length - 1 - (p - e) then 0 else at' s (s.length - 1 - (p - e)) - 48
def dgF (neg : Bool) (s : List UInt8) (e p : Int) : Int := if neg = true then -atF s e p else atF s e p

def ordG (f g : Int → Int) : Nat → Int → Int
  | 0, _ => 0
  | k + 1, p => if f p < g p then -1 else if g p < f p then 1 else ordG f g k (p - 1)

end Go.Proofs.YtbegohehjkjnmaaGreatDoor.Flow

namespace Go.Proofs.YtbegohehjkjnmaaGreatDoor.Flow
open Go

def pad (s : List UInt8) (j : Nat) : Int := if j < s.length then at' s j - 48 else 0

def lastOk (s : List UInt8) : Prop := ∀ c r, s = r ++ [c] → ¬ c = 48
theorem lastOk.tail {c : UInt8} {s : List UInt8} (h : lastOk (c :: s)) : lastOk s := fun d r e => h d (c :: r) (by rw [e]; rfl)

def sizeF (sa : List UInt8) (ea : Int) (sb : List UInt8) (eb : Int) : Int :=
  if Lib.compareInt (sa.length + ea) (sb.length + eb) = 0 then Lib.compareBytes sa sb else Lib.compareInt (sa.length + ea) (sb.length + eb)
def signF (neg : Bool) (s : List UInt8) : Int := if s.length = 0 then 0 else if neg = true then -1 else 1
def orderF (na : Bool) (sa : List UInt8) (ea : Int) (nb : Bool) (sb : List UInt8) (eb : Int) : Int :=
  if ¬ signF na sa = signF nb sb ∨ signF na sa = 0 then Lib.compareInt (signF na sa) (signF nb sb) else signF na sa * sizeF sa ea sb eb

theorem right_last {neg : Bool} {s : List UInt8} {e : Int} (h : RightP neg s e) : lastOk s := fun c r hs => by
  subst hs
  have h0 : ¬ (r ++ [c]).length = 0 := by simp
  rw [right_cons h0] at h
  have h4 := h.2.2.2.1
  intro hc
  subst hc
  apply h4
  simp [at', List.getD_eq_getElem?_getD]

end Go.Proofs.YtbegohehjkjnmaaGreatDoor.Flow

namespace Go.Proofs.YtbegohehjkjnmaaGreatDoor.Flow
open Go

abbrev zs (n : Nat) : List UInt8 := List.replicate n 48

theorem repeatL_one (n : Nat) : Lib.repeatL [48] n = zs n := by
  induction n with
  | zero => rfl
  | succ n ih =>
    rw [Lib.repeatL, ih]
    show _ = List.replicate (n + 1) 48
    rw [List.replicate_succ]
    rfl

def textU (s : List UInt8) (e : Int) : List UInt8 :=
  if 0 ≤ e ∧ s.length + e ≤ 21 then s ++ zs e.toNat
  else if 1 ≤ s.length + e ∧ s.length + e < s.length then s.take (s.length + e).toNat ++ [46] ++ s.drop (s.length + e).toNat
  else if -6 ≤ s.length + e ∧ s.length + e ≤ 0 then [48, 46] ++ zs (-(s.length + e)).toNat ++ s
  else s.take 1 ++ (if 1 < s.length then [46] ++ s.drop 1 else []) ++ [101] ++ Lib.itoa (s.length + e - 1)
def textF (neg : Bool) (s : List UInt8) (e : Int) : List UInt8 :=
  if ¬ RightP neg s e then [] else if s.length = 0 then [48] else (if neg = true then [45] else []) ++ textU s e

theorem rep_ctr (e : Int) (h : 0 ≤ e) (h2 : e ≤ 1000000) : Ctr Tryz.prog 44 [.s [48], .i .i64 e] (.s (zs e.toNat)) := by
  obtain ⟨n, rfl⟩ := Int.eq_ofNat_of_zero_le h
  have := repeat_ctr [48] n (by omega) (by simp; omega)
  rwa [repeatL_one] at this

theorem zeros_ctr (e : Int) (h : 0 ≤ e) (h2 : e ≤ 1000000) : Ctr Tryz.prog 50 [.i .i64 e] (.s (zs e.toNat)) := by
  obtain ⟨n, rfl⟩ := Int.eq_ofNat_of_zero_le h
  refine r_fun Tryz.func50 rfl Tryz.ntmps50 Tryz.results50 rfl rfl fun X hL hX => ?_
  repeat' (first | with_reducible (first | refine t_seq ?_ | refine t_region ?_ | refine c_nil ?_ | refine n_then ?_ | refine t_ret ?_ | refine t_skip ?_ | refine t_exit ?_ | refine t_block ?_ | refine n_block ?_ | refine e_then ?_ | refine x_then ?_ | refine x_block ?_ | refine t_draw ?_) | refine r_val rfl rfl True.intro ?_ | refine r_gskip rfl rfl rfl ?_ | refine r_gskip2 rfl rfl rfl ?_ | refine r_gval rfl rfl rfl rfl True.intro ?_ | refine t_true rfl ?_ | refine t_false rfl ?_ | ((first | refine t_cond_d rfl ?_ ?_ | refine t_cond_i rfl ?_ ?_ | refine t_cond_j rfl ?_ ?_ | refine t_cond_s rfl ?_ ?_ | refine t_cond_n rfl ?_ ?_ | refine t_cond rfl ?_ ?_ | refine c_split_d rfl rfl ?_ ?_ | refine c_split_i rfl rfl ?_ ?_ | refine c_split_j rfl rfl ?_ ?_ | refine c_split_s rfl rfl ?_ ?_ | refine c_split_n rfl rfl ?_ ?_) <;> intro <;> try (first | contradiction | (exfalso; omega))) | ((first | refine r_val rfl rfl ?_ ?_ | refine r_gval rfl rfl rfl rfl ?_ ?_ | refine r_obj rfl rfl ?_ ?_ | refine r_sto rfl ?_ ?_ | refine r_gobj rfl rfl rfl rfl ?_ ?_); focus (first | omega | exact Nat.le_of_ble_eq_true rfl | ((repeat first | rw [wrap_u8] | rw [IntKind.wrap_i64] | rw [IntKind.wrap_i32] | rw [wrap_u32'] | rw [wrap_u64']); (repeat' refine And.intro ?_ ?_) <;> omega) | ((repeat' refine And.intro ?_ ?_) <;> first | omega | rfl | exact Nat.le_refl _ | exact Nat.le_of_ble_eq_true rfl | exact bytesF_one _) | (simp_all; done) | (simp_all; omega))) | refine e_hit rfl ?_ | refine e_miss rfl ?_ | with_reducible refine ⟨by kernel_rfl, ?_⟩ | refine x_end rfl ?_ | ((with_reducible refine c_grd ?_); (fail_if_success (refine c_lit true rfl rfl rfl ?_)); (fail_if_success (refine c_lit false rfl rfl rfl ?_)); refine c_split rfl rfl (fun _ => ?_) (fun _ => ?_)))
  refine T.loop hL (fun k : Nat => [(0, .i .i64 n), (3, .s (zs k)), (4, .i .i64 k)]) (fun _ => []) (fun k => k ≤ n) (fun k => n - k) 0 (Nat.zero_le _) ⟨⟨rfl, rfl, rfl, trivial⟩, trivial, rfl, by rw [hX]; intro k hk; cases hk⟩ ?_
  intro k hk
  have hl : (zs k).length = k := by simp
  repeat' (first | with_reducible (first | refine t_seq ?_ | refine t_region ?_ | refine c_nil ?_ | refine n_then ?_ | refine t_ret ?_ | refine t_skip ?_ | refine t_exit ?_ | refine t_block ?_ | refine n_block ?_ | refine e_then ?_ | refine x_then ?_ | refine x_block ?_ | refine t_draw ?_) | refine r_val rfl rfl True.intro ?_ | refine r_gskip rfl rfl rfl ?_ | refine r_gskip2 rfl rfl rfl ?_ | refine r_gval rfl rfl rfl rfl True.intro ?_ | refine t_true rfl ?_ | refine t_false rfl ?_ | ((first | refine t_cond_d rfl ?_ ?_ | refine t_cond_i rfl ?_ ?_ | refine t_cond_j rfl ?_ ?_ | refine t_cond_s rfl ?_ ?_ | refine t_cond_n rfl ?_ ?_ | refine t_cond rfl ?_ ?_ | refine c_split_d rfl rfl ?_ ?_ | refine c_split_i rfl rfl ?_ ?_ | refine c_split_j rfl rfl ?_ ?_ | refine c_split_s rfl rfl ?_ ?_ | refine c_split_n rfl rfl ?_ ?_) <;> intro <;> try (first | (rename_i hz; exact Bool.noConfusion (show true = false from hz)) | (rename_i hz; exact Bool.noConfusion (show false = true from hz)) | (exfalso; omega))) | ((first | refine r_val rfl rfl ?_ ?_ | refine r_gval rfl rfl rfl rfl ?_ ?_ | refine r_obj rfl rfl ?_ ?_ | refine r_sto rfl ?_ ?_ | refine r_gobj rfl rfl rfl rfl ?_ ?_); focus (first | (simp only [List.length_replicate, List.length_cons, List.length_nil]; omega) | omega | exact Nat.le_of_ble_eq_true rfl | ((repeat first | rw [wrap_u8] | rw [IntKind.wrap_i64] | rw [IntKind.wrap_i32] | rw [wrap_u32'] | rw [wrap_u64']); (repeat' refine And.intro ?_ ?_) <;> omega) | ((repeat' refine And.intro ?_ ?_) <;> first | omega | rfl | exact Nat.le_refl _ | exact Nat.le_of_ble_eq_true rfl | exact bytesF_one _) | (simp_all; done) | (simp_all; omega))) | refine e_hit rfl ?_ | refine e_miss rfl ?_ | with_reducible refine ⟨by kernel_rfl, ?_⟩ | refine x_end rfl ?_ | ((with_reducible refine c_grd ?_); (fail_if_success (refine c_lit true rfl rfl rfl ?_)); (fail_if_success (refine c_lit false rfl rfl rfl ?_)); refine c_split rfl rfl (fun _ => ?_) (fun _ => ?_)))
  · exact ⟨k + 1, by omega, by omega, ⟨rfl, congrArg D.s (List.replicate_succ' (a := (48 : UInt8)) (n := k)).symm, rfl, trivial⟩, trivial, rfl, by rw [hX]; intro k hk; cases hk⟩
  · rw [show k = n by omega]
    simp

abbrev dig10 : List UInt8 := [48, 49, 50, 51, 52, 53, 54, 55, 56, 57]
theorem dig_at : ∀ n : Nat, n < 10 → (dig10.take (n + 1)).drop n = [UInt8.ofNat (48 + n)] := by decide

theorem rnum_pos (n : Nat) : n ≤ 1000000 → Ctr Tryz.prog 51 [.i .i64 n] (.s (Lib.decDigits n)) := by
  induction n using Nat.strongRecOn with
  | ind n ih =>
    intro hn
    have hl : (Lib.decDigits (n / 10)).length ≤ 100 := dlen (n / 10) (by omega)
    have l1 : dig10.length = 10 := rfl
    by_cases h : n < 10
    · have e : Lib.decDigits n = [UInt8.ofNat (48 + n)] := by rw [Lib.decDigits, dif_pos h]
      refine r_fun Tryz.func51 rfl Tryz.ntmps51 Tryz.results51 rfl rfl fun X hL hX => ?_
      clear ih hl
      repeat' (first | with_reducible (first | refine t_seq ?_ | refine t_region ?_ | refine c_nil ?_ | refine n_then ?_ | refine t_ret ?_ | refine t_skip ?_ | refine t_exit ?_ | refine t_block ?_ | refine n_block ?_ | refine e_then ?_ | refine x_then ?_ | refine x_block ?_ | refine t_draw ?_) | refine r_val rfl rfl True.intro ?_ | refine r_gskip rfl rfl rfl ?_ | refine r_gskip2 rfl rfl rfl ?_ | refine r_gval rfl rfl rfl rfl True.intro ?_ | refine t_true rfl ?_ | refine t_false rfl ?_ | ((first | refine t_cond_d rfl ?_ ?_ | refine t_cond_i rfl ?_ ?_ | refine t_cond_j rfl ?_ ?_ | refine t_cond_s rfl ?_ ?_ | refine t_cond_n rfl ?_ ?_ | refine t_cond rfl ?_ ?_ | refine c_split_d rfl rfl ?_ ?_ | refine c_split_i rfl rfl ?_ ?_ | refine c_split_j rfl rfl ?_ ?_ | refine c_split_s rfl rfl ?_ ?_ | refine c_split_n rfl rfl ?_ ?_) <;> intro <;> try (first | contradiction | (exfalso; omega))) | ((first | refine r_val rfl rfl ?_ ?_ | refine r_gval rfl rfl rfl rfl ?_ ?_ | refine r_obj rfl rfl ?_ ?_ | refine r_sto rfl ?_ ?_ | refine r_gobj rfl rfl rfl rfl ?_ ?_); focus (first | omega | exact Nat.le_of_ble_eq_true rfl | ((repeat first | rw [wrap_u8] | rw [IntKind.wrap_i64] | rw [IntKind.wrap_i32] | rw [wrap_u32'] | rw [wrap_u64']); (repeat' refine And.intro ?_ ?_) <;> omega) | ((repeat' refine And.intro ?_ ?_) <;> first | omega | rfl | exact Nat.le_refl _ | exact Nat.le_of_ble_eq_true rfl | exact bytesF_one _) | (simp_all; done) | (simp_all; omega))) | refine e_hit rfl ?_ | refine e_miss rfl ?_ | with_reducible refine ⟨by kernel_rfl, ?_⟩ | refine x_end rfl ?_ | ((with_reducible refine c_grd ?_); (fail_if_success (refine c_lit true rfl rfl rfl ?_)); (fail_if_success (refine c_lit false rfl rfl rfl ?_)); refine c_split rfl rfl (fun _ => ?_) (fun _ => ?_)))
      rw [e, ← dig_at n h]
      rfl
    · have e : Lib.decDigits n = Lib.decDigits (n / 10) ++ [UInt8.ofNat (48 + n % 10)] := by rw [Lib.decDigits, dif_neg h]
      have c := ih (n / 10) (by omega) (by omega)
      refine r_fun Tryz.func51 rfl Tryz.ntmps51 Tryz.results51 rfl rfl fun X hL hX => ?_
      clear ih
      repeat' (first | with_reducible (first | refine t_seq ?_ | refine t_region ?_ | refine c_nil ?_ | refine n_then ?_ | refine t_ret ?_ | refine t_skip ?_ | refine t_exit ?_ | refine t_block ?_ | refine n_block ?_ | refine e_then ?_ | refine x_then ?_ | refine x_block ?_ | refine t_draw ?_) | refine r_val rfl rfl True.intro ?_ | refine r_gskip rfl rfl rfl ?_ | refine r_gskip2 rfl rfl rfl ?_ | refine r_gval rfl rfl rfl rfl True.intro ?_ | refine t_true rfl ?_ | refine t_false rfl ?_ | ((first | refine t_cond_d rfl ?_ ?_ | refine t_cond_i rfl ?_ ?_ | refine t_cond_j rfl ?_ ?_ | refine t_cond_s rfl ?_ ?_ | refine t_cond_n rfl ?_ ?_ | refine t_cond rfl ?_ ?_ | refine c_split_d rfl rfl ?_ ?_ | refine c_split_i rfl rfl ?_ ?_ | refine c_split_j rfl rfl ?_ ?_ | refine c_split_s rfl rfl ?_ ?_ | refine c_split_n rfl rfl ?_ ?_) <;> intro <;> try (first | (rename_i hz; exact Bool.noConfusion (show true = false from hz)) | (rename_i hz; exact Bool.noConfusion (show false = true from hz)) | (exfalso; omega))) | ((first | refine r_val rfl rfl ?_ ?_ | refine r_gval rfl rfl rfl rfl ?_ ?_ | refine r_obj rfl rfl ?_ ?_ | refine r_sto rfl ?_ ?_ | refine r_gobj rfl rfl rfl rfl ?_ ?_); focus (first | (simp only [List.length_drop, List.length_take]; omega) | omega | exact Nat.le_of_ble_eq_true rfl | ((repeat first | rw [wrap_u8] | rw [IntKind.wrap_i64] | rw [IntKind.wrap_i32] | rw [wrap_u32'] | rw [wrap_u64']); (repeat' refine And.intro ?_ ?_) <;> omega) | ((repeat' refine And.intro ?_ ?_) <;> first | omega | rfl | exact Nat.le_refl _ | exact Nat.le_of_ble_eq_true rfl | exact bytesF_one _) | (simp_all; done) | (simp_all; omega))) | refine e_hit rfl ?_ | refine e_miss rfl ?_ | with_reducible refine ⟨by kernel_rfl, ?_⟩ | refine x_end rfl ?_ | refine r_call (f := 51) rfl rfl Tryz.call51 rfl c ?_ | ((with_reducible refine c_grd ?_); (fail_if_success (refine c_lit true rfl rfl rfl ?_)); (fail_if_success (refine c_lit false rfl rfl rfl ?_)); refine c_split rfl rfl (fun _ => ?_) (fun _ => ?_)))
      rw [e, ← dig_at (n % 10) (by omega)]
      rfl
where
  dlen (n : Nat) (h : n ≤ 1000000) : (Lib.decDigits n).length ≤ 100 := by
    have key : ∀ (k n : Nat), n < 10 ^ k → (Lib.decDigits n).length ≤ k + 1 := by
      intro k
      induction k with
      | zero => intro n hn; rw [Lib.decDigits, dif_pos (by omega)]; simp
      | succ k ih =>
        intro n hn
        rw [Lib.decDigits]
        split
        · simp
        · have := ih (n / 10) (by rw [Nat.pow_succ] at hn; omega)
          simp
          omega
    have := key 7 n (by omega)
    omega

theorem rnum_ctr (n : Int) (h0 : -1000000 ≤ n) (h1 : n ≤ 1000000) : Ctr Tryz.prog 51 [.i .i64 n] (.s (Lib.itoa n)) := by
  unfold Lib.itoa
  by_cases h : n < 0
  · rw [if_pos h]
    have c := rnum_pos n.natAbs (by omega)
    rw [show ((n.natAbs : Nat) : Int) = -n by omega] at c
    have hl := rnum_pos.dlen n.natAbs (by omega)
    generalize Lib.decDigits n.natAbs = ds at c hl ⊢
    refine r_fun Tryz.func51 rfl Tryz.ntmps51 Tryz.results51 rfl rfl fun X hL hX => ?_
    repeat' (first | with_reducible (first | refine t_seq ?_ | refine t_region ?_ | refine c_nil ?_ | refine n_then ?_ | refine t_ret ?_ | refine t_skip ?_ | refine t_exit ?_ | refine t_block ?_ | refine n_block ?_ | refine e_then ?_ | refine x_then ?_ | refine x_block ?_ | refine t_draw ?_) | refine r_val rfl rfl True.intro ?_ | refine r_gskip rfl rfl rfl ?_ | refine r_gskip2 rfl rfl rfl ?_ | refine r_gval rfl rfl rfl rfl True.intro ?_ | refine t_true rfl ?_ | refine t_false rfl ?_ | ((first | refine t_cond_d rfl ?_ ?_ | refine t_cond_i rfl ?_ ?_ | refine t_cond_j rfl ?_ ?_ | refine t_cond_s rfl ?_ ?_ | refine t_cond_n rfl ?_ ?_ | refine t_cond rfl ?_ ?_ | refine c_split_d rfl rfl ?_ ?_ | refine c_split_i rfl rfl ?_ ?_ | refine c_split_j rfl rfl ?_ ?_ | refine c_split_s rfl rfl ?_ ?_ | refine c_split_n rfl rfl ?_ ?_) <;> intro <;> try (first | (rename_i hz; exact Bool.noConfusion (show true = false from hz)) | (rename_i hz; exact Bool.noConfusion (show false = true from hz)) | (exfalso; omega))) | ((first | refine r_val rfl rfl ?_ ?_ | refine r_gval rfl rfl rfl rfl ?_ ?_ | refine r_obj rfl rfl ?_ ?_ | refine r_sto rfl ?_ ?_ | refine r_gobj rfl rfl rfl rfl ?_ ?_); focus (first | (simp only [List.length_cons, List.length_nil]; omega) | omega | exact Nat.le_of_ble_eq_true rfl | ((repeat first | rw [wrap_u8] | rw [IntKind.wrap_i64] | rw [IntKind.wrap_i32] | rw [wrap_u32'] | rw [wrap_u64']); (repeat' refine And.intro ?_ ?_) <;> omega) | ((repeat' refine And.intro ?_ ?_) <;> first | omega | rfl | exact Nat.le_refl _ | exact Nat.le_of_ble_eq_true rfl | exact bytesF_one _) | (simp_all; done) | (simp_all; omega))) | refine e_hit rfl ?_ | refine e_miss rfl ?_ | with_reducible refine ⟨by kernel_rfl, ?_⟩ | refine x_end rfl ?_ | refine r_call (f := 51) rfl rfl Tryz.call51 rfl c ?_ | ((with_reducible refine c_grd ?_); (fail_if_success (refine c_lit true rfl rfl rfl ?_)); (fail_if_success (refine c_lit false rfl rfl rfl ?_)); refine c_split rfl rfl (fun _ => ?_) (fun _ => ?_)))
    rfl
  · rw [if_neg h]
    have c := rnum_pos n.toNat (by omega)
    rwa [show ((n.toNat : Nat) : Int) = n by omega] at c

theorem itoa_len (n : Int) (h0 : -1000000 ≤ n) (h1 : n ≤ 1000000) : (Lib.itoa n).length ≤ 101 := by
  unfold Lib.itoa
  split
  · have := rnum_pos.dlen n.natAbs (by omega)
    simp only [List.length_cons]
    omega
  · have := rnum_pos.dlen n.toNat (by omega)
    omega

end Go.Proofs.YtbegohehjkjnmaaGreatDoor.Flow

namespace Go.Proofs.YtbegohehjkjnmaaGreatDoor.Flow
open Go

def numA (a : Nat) (l : List UInt8) : Nat := l.foldl (fun n c => 10 * n + (c.toNat - 48)) a
def numL (l : List UInt8) : Nat := numA 0 l

theorem isD_nat {c : UInt8} (h : isD c = true) : 48 ≤ c.toNat ∧ c.toNat ≤ 57 := by
  have := isD_iff.1 h
  omega

theorem dec_step {k : Nat} (h : ¬ k < 10) : Lib.decDigits k = Lib.decDigits (k / 10) ++ [UInt8.ofNat (48 + k % 10)] := by rw [Lib.decDigits, dif_neg h]
theorem dec_small {k : Nat} (h : k < 10) : Lib.decDigits k = [UInt8.ofNat (48 + k)] := by rw [Lib.decDigits, dif_pos h]

theorem isD_dig {n : Nat} (h : n < 10) : isD (UInt8.ofNat (48 + n)) = true ∧ (UInt8.ofNat (48 + n)).toNat = 48 + n := by
  have : (UInt8.ofNat (48 + n)).toNat = 48 + n := by simp; omega
  exact ⟨isD_iff.2 (by omega), this⟩

theorem dec_isD (k : Nat) : ∀ c ∈ Lib.decDigits k, isD c = true := by
  induction k using Nat.strongRecOn with
  | ind k ih =>
    by_cases h : k < 10
    · rw [dec_small h]
      intro c hc
      rw [List.mem_singleton.1 hc]
      exact (isD_dig h).1
    · rw [dec_step h]
      intro c hc
      rcases List.mem_append.1 hc with hc | hc
      · exact ih (k / 10) (by omega) c hc
      · rw [List.mem_singleton.1 hc]
        exact (isD_dig (by omega)).1

theorem dec_first (k : Nat) (h : ¬ k = 0) : ∃ c l, Lib.decDigits k = c :: l ∧ ¬ c = 48 := by
  induction k using Nat.strongRecOn with
  | ind k ih =>
    by_cases h2 : k < 10
    · refine ⟨_, [], dec_small h2, fun h3 => ?_⟩
      have := congrArg UInt8.toNat h3
      rw [(isD_dig h2).2] at this
      have : (48 : UInt8).toNat = 48 := rfl
      omega
    · obtain ⟨c, l, h3, h4⟩ := ih (k / 10) (by omega) (by omega)
      exact ⟨c, l ++ [UInt8.ofNat (48 + k % 10)], by rw [dec_step h2, h3]; rfl, h4⟩

def dig0 (k : Nat) : List UInt8 := if k = 0 then [] else Lib.decDigits k
theorem dig0_step {k : Nat} (h : ¬ k = 0) : dig0 k = dig0 (k / 10) ++ [UInt8.ofNat (48 + k % 10)] := by
  unfold dig0
  rw [if_neg h]
  by_cases h2 : k < 10
  · rw [dec_small h2, if_pos (by omega), show k % 10 = k by omega]
    rfl
  · rw [dec_step h2, if_neg (by omega)]

theorem norm_none (neg : Bool) (e : Int) : normF neg [] e = ((false, [], 0), 0) := rfl
theorem norm_zero (neg : Bool) (e : Int) : normF neg [48] e = ((false, [], 0), 0) := by
  unfold normF
  rw [if_pos (by decide)]
theorem norm_dig0 (neg : Bool) (k : Nat) (e : Int) : normF neg (dig0 k) e = normF neg (Lib.decDigits k) e := by
  unfold dig0
  split
  · rename_i h
    subst h
    rw [norm_none, show Lib.decDigits 0 = [48] from dec_small (by omega), norm_zero]
  · rfl


theorem lastOk_tR {s : List UInt8} (h : lastOk s) : tR s = s := by
  rcases snoc_casesU s with rfl | ⟨r, c, rfl⟩
  · rfl
  · exact tR_snoc_ne r c (h c r rfl)

theorem tR_zs (s : List UInt8) (n : Nat) : tR (s ++ zs n) = tR s := by
  induction n with
  | zero => simp
  | succ n ih =>
    unfold zs at ih ⊢
    rw [List.replicate_succ', ← List.append_assoc, tR_snoc_eq, ih]

theorem tL_zs (s : List UInt8) (n : Nat) : tL (zs n ++ s) = tL s := by
  induction n with
  | zero => simp
  | succ n ih =>
    unfold zs at ih ⊢
    rw [List.replicate_succ, List.cons_append]
    unfold tL Lib.trimLeftB at ih ⊢
    rw [List.dropWhile_cons]
    simp

theorem tL_ne {c : UInt8} {l : List UInt8} (h : ¬ c = 48) : tL (c :: l) = c :: l := by
  unfold tL Lib.trimLeftB
  rw [List.dropWhile_cons]
  simp [h]

def ofF (n e : Int) : Bool × List UInt8 × Int := if e < -2000 ∨ 2000 < e then (false, [], 0) else (normF (decide (n < 0)) (Lib.decDigits n.natAbs) e).1

def intF (neg : Bool) (s : List UInt8) (e : Int) : Int × Bool :=
  if ¬ RightP neg s e ∨ e < 0 ∨ 19 < s.length + e then (0, false)
  else if 4611686018427387904 < numL (s ++ zs e.toNat) then (0, false)
  else if neg = true then (-(numL (s ++ zs e.toNat) : Int), true) else ((numL (s ++ zs e.toNat) : Int), true)


end Go.Proofs.YtbegohehjkjnmaaGreatDoor.Flow

namespace Go.Proofs.YtbegohehjkjnmaaGreatDoor.Flow
open Go

theorem pow10_is {S : Cells} {w : World} (hg : GOk S w) : Lib.TabIs Tryz.prog w "internal/strconv.uint64pow10" .u64 Lib.pow10Tab := by
  have hn : Tryz.prog.globalNamed "internal/strconv.uint64pow10" = some 3 := by kernel_rfl
  have h1 := hg.rel 3
  have h2 := (hg.len 3 20 rfl).2
  have h3 : ∀ j, j < 20 → w.cell? ⟨3, j, none⟩ = some (.int .u64 (powZ j)) := by
    cases h1 with
    | rn _ _ _ _ _ _ h => exact fun j hj => (h j hj).2
  have h0 := h3 0 (by decide)
  unfold Lib.TabIs
  simp only [World.var?, hn, Option.bind_some]
  cases hh : w.heap[3]? with
  | none => simp [World.cell?, hh] at h0
  | some o =>
    cases o with
    | cells cs t fr =>
      simp only [Option.some.injEq]
      have h4 : ∀ j, j < 20 → cs[j]? = some (.int .u64 (powZ j)) := fun j hj => by
        have := h3 j hj
        simpa [World.cell?, hh] using this
      have h5 : cs[20]? = none := by simpa [World.cell?, hh] using h2
      apply Array.ext_getElem?
      intro j
      by_cases hj : j < 20
      · rw [h4 j hj]
        simp [Lib.pow10Tab, hj, powZ]
      · have : cs.size ≤ 20 := by simpa using h5
        rw [Array.getElem?_eq_none (by omega), Array.getElem?_eq_none (by simp [Lib.pow10Tab]; omega)]
    | _ => simp [World.cell?, hh] at h0

theorem itoa_ctr (n : Int) (h0 : -9223372036854775808 ≤ n) (h1 : n ≤ 9223372036854775807) : Ctr Tryz.prog 45 [.i .i64 n] (.s (Lib.itoa n)) := by
  intro w S vs hv hg hn hr
  have h := hr 0 (by simp)
  rw [one_of hn]
  generalize vs.getD 0 undef = v0 at *
  cases h
  refine (Tryz.strconv_Itoa n h0 h1 w (pow10_is hg)).mono ?_
  rintro e w' ⟨rfl, k, os, rfl⟩
  exact ⟨_, S, rfl, .s _ _, hist_below hv hg (below_grown w k os)⟩

end Go.Proofs.YtbegohehjkjnmaaGreatDoor.Flow
