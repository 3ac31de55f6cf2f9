/- The texts D17a, D17, D12, DP, LibsC, D21, D18, U18, U19, J27, one behind the other. -/
import Derived.Test.YtbegohehjkjnmaaGreatDoorJZ13
import Derived.Test.YtbegohehjkjnmaaGreatDoorJZ23
import Derived.Test.YtbegohehjkjnmaaGreatDoorJZ24
namespace Go.Proofs.YtbegohehjkjnmaaGreatDoor.Flow
open Go

theorem text_zero : Ctr Tryz.prog 24 [dcD false [] 0] (.s [48]) := by
  have c1 := right_ctr false [] 0 (by decide)
  have hr : rightB false [] 0 = true := by decide
  rw [hr] at c1
  refine r_fun Tryz.func24 rfl Tryz.ntmps24 Tryz.results24 rfl rfl fun X hL hX => ?_
  repeat' (first | with_reducible (first | refine t_seq ?_ | refine t_region ?_ | refine c_nil ?_ | refine n_then ?_ | refine t_ret ?_ | refine t_skip ?_ | refine t_exit ?_ | refine t_block ?_ | refine n_block ?_ | refine e_then ?_ | refine x_then ?_ | refine x_block ?_ | refine t_draw ?_) | refine r_val rfl rfl True.intro ?_ | refine r_gskip rfl rfl rfl ?_ | refine r_gskip2 rfl rfl rfl ?_ | refine r_gval rfl rfl rfl rfl True.intro ?_ | refine t_true rfl ?_ | refine t_false rfl ?_ | ((first | refine t_cond_d rfl ?_ ?_ | refine t_cond_i rfl ?_ ?_ | refine t_cond_j rfl ?_ ?_ | refine t_cond_s rfl ?_ ?_ | refine t_cond_n rfl ?_ ?_ | refine t_cond rfl ?_ ?_ | refine c_split_d rfl rfl ?_ ?_ | refine c_split_i rfl rfl ?_ ?_ | refine c_split_j rfl rfl ?_ ?_ | refine c_split_s rfl rfl ?_ ?_ | refine c_split_n rfl rfl ?_ ?_) <;> intro <;> try (first | (rename_i hz; exact Bool.noConfusion (show true = false from hz)) | (rename_i hz; exact Bool.noConfusion (show false = true from hz)) | (exfalso; omega))) | ((first | refine r_val rfl rfl ?_ ?_ | refine r_gval rfl rfl rfl rfl ?_ ?_ | refine r_obj rfl rfl ?_ ?_ | refine r_sto rfl ?_ ?_ | refine r_gobj rfl rfl rfl rfl ?_ ?_); focus (first | omega | exact Nat.le_of_ble_eq_true rfl | ((repeat first | rw [wrap_u8] | rw [IntKind.wrap_i64] | rw [IntKind.wrap_i32] | rw [wrap_u32'] | rw [wrap_u64']); (repeat' refine And.intro ?_ ?_) <;> omega) | ((repeat' refine And.intro ?_ ?_) <;> first | omega | rfl | exact Nat.le_refl _ | exact Nat.le_of_ble_eq_true rfl | exact bytesF_one _) | (simp_all; done) | (simp_all; omega))) | refine e_hit rfl ?_ | refine e_miss rfl ?_ | with_reducible refine ⟨by kernel_rfl, ?_⟩ | refine x_end rfl ?_ | refine r_call (f := 27) rfl rfl Tryz.call27 rfl c1 ?_ | ((with_reducible refine c_grd ?_); (fail_if_success (refine c_lit true rfl rfl rfl ?_)); (fail_if_success (refine c_lit false rfl rfl rfl ?_)); refine c_split rfl rfl (fun _ => ?_) (fun _ => ?_)))
  all_goals rfl

theorem rtext_zero : Ctr Tryz.prog 35 [dcD false [] 0] (.s [48]) := by
  have c1 := rright_ctr false [] 0 (by decide)
  have hr : rightB false [] 0 = true := by decide
  rw [hr] at c1
  refine r_fun Tryz.func35 rfl Tryz.ntmps35 Tryz.results35 rfl rfl fun X hL hX => ?_
  repeat' (first | with_reducible (first | refine t_seq ?_ | refine t_region ?_ | refine c_nil ?_ | refine n_then ?_ | refine t_ret ?_ | refine t_skip ?_ | refine t_exit ?_ | refine t_block ?_ | refine n_block ?_ | refine e_then ?_ | refine x_then ?_ | refine x_block ?_ | refine t_draw ?_) | refine r_val rfl rfl True.intro ?_ | refine r_gskip rfl rfl rfl ?_ | refine r_gskip2 rfl rfl rfl ?_ | refine r_gval rfl rfl rfl rfl True.intro ?_ | refine t_true rfl ?_ | refine t_false rfl ?_ | ((first | refine t_cond_d rfl ?_ ?_ | refine t_cond_i rfl ?_ ?_ | refine t_cond_j rfl ?_ ?_ | refine t_cond_s rfl ?_ ?_ | refine t_cond_n rfl ?_ ?_ | refine t_cond rfl ?_ ?_ | refine c_split_d rfl rfl ?_ ?_ | refine c_split_i rfl rfl ?_ ?_ | refine c_split_j rfl rfl ?_ ?_ | refine c_split_s rfl rfl ?_ ?_ | refine c_split_n rfl rfl ?_ ?_) <;> intro <;> try (first | (rename_i hz; exact Bool.noConfusion (show true = false from hz)) | (rename_i hz; exact Bool.noConfusion (show false = true from hz)) | (exfalso; omega))) | ((first | refine r_val rfl rfl ?_ ?_ | refine r_gval rfl rfl rfl rfl ?_ ?_ | refine r_obj rfl rfl ?_ ?_ | refine r_sto rfl ?_ ?_ | refine r_gobj rfl rfl rfl rfl ?_ ?_); focus (first | omega | exact Nat.le_of_ble_eq_true rfl | ((repeat first | rw [wrap_u8] | rw [IntKind.wrap_i64] | rw [IntKind.wrap_i32] | rw [wrap_u32'] | rw [wrap_u64']); (repeat' refine And.intro ?_ ?_) <;> omega) | ((repeat' refine And.intro ?_ ?_) <;> first | omega | rfl | exact Nat.le_refl _ | exact Nat.le_of_ble_eq_true rfl | exact bytesF_one _) | (simp_all; done) | (simp_all; omega))) | refine e_hit rfl ?_ | refine e_miss rfl ?_ | with_reducible refine ⟨by kernel_rfl, ?_⟩ | refine x_end rfl ?_ | refine r_call (f := 32) rfl rfl Tryz.call32 rfl c1 ?_ | ((with_reducible refine c_grd ?_); (fail_if_success (refine c_lit true rfl rfl rfl ?_)); (fail_if_success (refine c_lit false rfl rfl rfl ?_)); refine c_split rfl rfl (fun _ => ?_) (fun _ => ?_)))
  all_goals rfl

theorem text_ctr (neg : Bool) (s : List UInt8) (e : Int) (hs : s.length ≤ 1048576) : Ctr Tryz.prog 24 [dcD neg s e] (.s (textF neg s e)) := by
  by_cases h : RightP neg s e
  · by_cases h0 : s.length = 0
    · obtain ⟨rfl, rfl⟩ := (right_nil h0).1 h
      obtain rfl := len_nil h0
      exact text_zero
    · have := text_ok neg s e h h0
      unfold textF
      rw [if_neg (fun h2 => h2 h), if_neg h0]
      exact this
  · have := text_bad neg s e hs h
    unfold textF
    rw [if_pos h]
    exact this

theorem rtext_ctr (neg : Bool) (s : List UInt8) (e : Int) (hs : s.length ≤ 1048576) : Ctr Tryz.prog 35 [dcD neg s e] (.s (textF neg s e)) := by
  by_cases h : RightP neg s e
  · by_cases h0 : s.length = 0
    · obtain ⟨rfl, rfl⟩ := (right_nil h0).1 h
      obtain rfl := len_nil h0
      exact rtext_zero
    · have := rtext_ok neg s e h h0
      unfold textF
      rw [if_neg (fun h2 => h2 h), if_neg h0]
      exact this
  · have := rtext_bad neg s e hs h
    unfold textF
    rw [if_pos h]
    exact this

end Go.Proofs.YtbegohehjkjnmaaGreatDoor.Flow

namespace Go.Proofs.YtbegohehjkjnmaaGreatDoor.Flow
open Go

end Go.Proofs.YtbegohehjkjnmaaGreatDoor.Flow

namespace Go.Proofs.YtbegohehjkjnmaaGreatDoor.Flow
open Go

end Go.Proofs.YtbegohehjkjnmaaGreatDoor.Flow

namespace Go.Proofs.YtbegohehjkjnmaaGreatDoor.Flow
open Go

end Go.Proofs.YtbegohehjkjnmaaGreatDoor.Flow

namespace Go.Proofs.YtbegohehjkjnmaaGreatDoor.Flow
open Go

end Go.Proofs.YtbegohehjkjnmaaGreatDoor.Flow

namespace Go.Proofs.YtbegohehjkjnmaaGreatDoor.Flow
open Go

def ordF (na : Bool) (sa : List UInt8) (ea : Int) (nb : Bool) (sb : List UInt8) (eb : Int) : Int :=
  if ¬ RightP na sa ea ∨ ¬ RightP nb sb eb then 0 else orderF na sa ea nb sb eb

end Go.Proofs.YtbegohehjkjnmaaGreatDoor.Flow

namespace Go.Proofs.YtbegohehjkjnmaaGreatDoor.Flow
open Go

theorem textF_len {neg : Bool} {s : List UInt8} {e : Int} (h : RightP neg s e) : (textF neg s e).length ≤ 1000 := by
  obtain ⟨b1, b2, b3, _⟩ := h.bounds
  have l4 := itoa_len (s.length + e - 1) (by omega) (by omega)
  have lu : (textU s e).length ≤ 900 := by
    unfold textU
    split
    · simp only [List.length_append, List.length_replicate]
      omega
    · split
      · simp only [List.length_append, List.length_take, List.length_drop, List.length_cons, List.length_nil]
        omega
      · split
        · simp only [List.length_append, List.length_replicate, List.length_cons, List.length_nil]
          omega
        · have : (if 1 < s.length then ([46] : List UInt8) ++ s.drop 1 else []).length ≤ 200 := by
            split
            · simp only [List.length_append, List.length_drop, List.length_cons, List.length_nil]
              omega
            · simp
          simp only [List.length_append, List.length_take, List.length_cons, List.length_nil]
          omega
  unfold textF
  rw [if_neg (fun h2 => h2 h)]
  split
  · simp
  · have : (if neg = true then ([45] : List UInt8) else []).length ≤ 1 := by split <;> simp
    rw [List.length_append]
    omega

end Go.Proofs.YtbegohehjkjnmaaGreatDoor.Flow

namespace Go.Proofs.YtbegohehjkjnmaaGreatDoor.Flow
open Go

theorem cut1 (l : List UInt8) (j : Int) (h0 : 0 ≤ j) (h : j < l.length) : (l.take (j + 1).toNat).drop j.toNat = [by8 (at' l j)] := by
  obtain ⟨j, rfl⟩ := Int.eq_ofNat_of_zero_le h0
  rw [by8_at]
  have e : ((j : Int) + 1).toNat = j + 1 := by omega
  have e2 : ((j : Int)).toNat = j := by omega
  rw [e, e2, List.take_add_one, List.drop_append_of_le_length (by simp; omega), List.drop_eq_nil_of_le (by simp; omega)]
  have hj : j < l.length := by omega
  simp [hj, List.getD_eq_getElem?_getD]

theorem cutN (l : List UInt8) (j : Nat) (h : j < l.length) : (l.take ((j : Int) + 1).toNat).drop ((j : Int)).toNat = [by8 (at' l j)] := cut1 l j (by omega) (by omega)

set_option maxHeartbeats 2000000 in
theorem rquote_ctr (s : List UInt8) (hs : s.length ≤ 1048576) : Ctr Tryz.prog 36 [.s s] (.s (quoteL s)) := by
  have cv := rvalid_ctr s (by omega)
  unfold quoteL
  cases hv : validL s with
  | false =>
    rw [hv] at cv
    clear hv
    refine r_fun Tryz.func36 rfl Tryz.ntmps36 Tryz.results36 rfl rfl fun X hL hX => ?_
    repeat' (first | with_reducible (first | refine t_seq ?_ | refine t_region ?_ | refine c_nil ?_ | refine n_then ?_ | refine t_ret ?_ | refine t_skip ?_ | refine t_exit ?_ | refine t_block ?_ | refine n_block ?_ | refine e_then ?_ | refine x_then ?_ | refine x_block ?_ | refine t_draw ?_) | refine r_val rfl rfl True.intro ?_ | refine r_gskip rfl rfl rfl ?_ | refine r_gskip2 rfl rfl rfl ?_ | refine r_gval rfl rfl rfl rfl True.intro ?_ | refine t_true rfl ?_ | refine t_false rfl ?_ | ((first | refine t_cond_d rfl ?_ ?_ | refine t_cond_i rfl ?_ ?_ | refine t_cond_j rfl ?_ ?_ | refine t_cond_s rfl ?_ ?_ | refine t_cond_n rfl ?_ ?_ | refine t_cond rfl ?_ ?_ | refine c_split_d rfl rfl ?_ ?_ | refine c_split_i rfl rfl ?_ ?_ | refine c_split_j rfl rfl ?_ ?_ | refine c_split_s rfl rfl ?_ ?_ | refine c_split_n rfl rfl ?_ ?_) <;> intro <;> try (first | (rename_i hz; exact Bool.noConfusion (show true = false from hz)) | (rename_i hz; exact Bool.noConfusion (show false = true from hz)) | (exfalso; omega))) | ((first | refine r_val rfl rfl ?_ ?_ | refine r_gval rfl rfl rfl rfl ?_ ?_ | refine r_obj rfl rfl ?_ ?_ | refine r_sto rfl ?_ ?_ | refine r_gobj rfl rfl rfl rfl ?_ ?_); focus (first | omega | exact Nat.le_of_ble_eq_true rfl | ((repeat first | rw [wrap_u8] | rw [IntKind.wrap_i64] | rw [IntKind.wrap_i32] | rw [wrap_u32'] | rw [wrap_u64']); (repeat' refine And.intro ?_ ?_) <;> omega) | ((repeat' refine And.intro ?_ ?_) <;> first | omega | rfl | exact Nat.le_refl _ | exact Nat.le_of_ble_eq_true rfl | exact bytesF_one _) | (simp_all; done) | (simp_all; omega))) | refine e_hit rfl ?_ | refine e_miss rfl ?_ | with_reducible refine ⟨by kernel_rfl, ?_⟩ | refine x_end rfl ?_ | refine r_call (f := 33) rfl rfl Tryz.call33 rfl cv ?_ | ((with_reducible refine c_grd ?_); (fail_if_success (refine c_lit true rfl rfl rfl ?_)); (fail_if_success (refine c_lit false rfl rfl rfl ?_)); refine c_split rfl rfl (fun _ => ?_) (fun _ => ?_)))
    rfl
  | true =>
    rw [hv] at cv
    clear hv
    rw [if_pos rfl]
    refine r_fun Tryz.func36 rfl Tryz.ntmps36 Tryz.results36 rfl rfl fun X hL hX => ?_
    repeat' (first | with_reducible (first | refine t_seq ?_ | refine t_region ?_ | refine c_nil ?_ | refine n_then ?_ | refine t_ret ?_ | refine t_skip ?_ | refine t_exit ?_ | refine t_block ?_ | refine n_block ?_ | refine e_then ?_ | refine x_then ?_ | refine x_block ?_ | refine t_draw ?_) | refine r_val rfl rfl True.intro ?_ | refine r_gskip rfl rfl rfl ?_ | refine r_gskip2 rfl rfl rfl ?_ | refine r_gval rfl rfl rfl rfl True.intro ?_ | refine t_true rfl ?_ | refine t_false rfl ?_ | ((first | refine t_cond_d rfl ?_ ?_ | refine t_cond_i rfl ?_ ?_ | refine t_cond_j rfl ?_ ?_ | refine t_cond_s rfl ?_ ?_ | refine t_cond_n rfl ?_ ?_ | refine t_cond rfl ?_ ?_ | refine c_split_d rfl rfl ?_ ?_ | refine c_split_i rfl rfl ?_ ?_ | refine c_split_j rfl rfl ?_ ?_ | refine c_split_s rfl rfl ?_ ?_ | refine c_split_n rfl rfl ?_ ?_) <;> intro <;> try (first | (rename_i hz; exact Bool.noConfusion (show true = false from hz)) | (rename_i hz; exact Bool.noConfusion (show false = true from hz)) | (exfalso; omega))) | ((first | refine r_val rfl rfl ?_ ?_ | refine r_gval rfl rfl rfl rfl ?_ ?_ | refine r_obj rfl rfl ?_ ?_ | refine r_sto rfl ?_ ?_ | refine r_gobj rfl rfl rfl rfl ?_ ?_); focus (first | omega | exact Nat.le_of_ble_eq_true rfl | ((repeat first | rw [wrap_u8] | rw [IntKind.wrap_i64] | rw [IntKind.wrap_i32] | rw [wrap_u32'] | rw [wrap_u64']); (repeat' refine And.intro ?_ ?_) <;> omega) | ((repeat' refine And.intro ?_ ?_) <;> first | omega | rfl | exact Nat.le_refl _ | exact Nat.le_of_ble_eq_true rfl | exact bytesF_one _) | (simp_all; done) | (simp_all; omega))) | refine e_hit rfl ?_ | refine e_miss rfl ?_ | with_reducible refine ⟨by kernel_rfl, ?_⟩ | refine x_end rfl ?_ | refine r_call (f := 33) rfl rfl Tryz.call33 rfl cv ?_ | ((with_reducible refine c_grd ?_); (fail_if_success (refine c_lit true rfl rfl rfl ?_)); (fail_if_success (refine c_lit false rfl rfl rfl ?_)); refine c_split rfl rfl (fun _ => ?_) (fun _ => ?_)))
    refine T.loop hL (fun x : Nat × List UInt8 => [(0, .s s), (3, .s x.2), (4, .i .i64 x.1)]) (fun _ => []) (fun x => x.1 ≤ s.length ∧ x.2 = [34] ++ qL (s.take x.1)) (fun x => s.length - x.1) (0, [34]) ⟨Nat.zero_le _, rfl⟩
      ⟨⟨rfl, rfl, rfl, trivial⟩, trivial, rfl, by rw [hX]; intro k hk; cases hk⟩ ?_
    rintro ⟨i, b⟩ ⟨g1, g2⟩
    dsimp only at g1 g2 ⊢
    have hb : b.length ≤ 6 * i + 1 := by
      have := qL_len (s.take i)
      rw [g2, List.length_append]
      have : (s.take i).length ≤ i := by simp; omega
      simp
      omega
    have l1 : hexS16.length = 16 := rfl
    have hr := at_range s i
    have hw : Unit → IntKind.i64.wrap (at' s i) = at' s i := fun _ => by rw [IntKind.wrap_i64]; omega
    have hwr : 0 ≤ IntKind.i64.wrap (at' s i) ∧ IntKind.i64.wrap (at' s i) < 256 := by rw [hw ()]; exact hr
    have done : ∀ (fr : Fr) (ow : Ow) (xs b' : List UInt8), getD' 0 fr = .s s → getD' 3 fr = .s b' → getD' 4 fr = .i .i64 (i + 1) → i < s.length → qI (IntKind.i64.wrap (at' s i)) = xs → b' = b ++ xs →
        ∃ y : Nat × List UInt8, (y.1 ≤ s.length ∧ y.2 = [34] ++ qL (s.take y.1)) ∧ s.length - y.1 < s.length - i ∧ Le X fr ow [(0, .s s), (3, .s y.2), (4, .i .i64 y.1)] [] := by
      intro fr ow xs b' q1 q2 q3 q4 q5 q6
      subst q6
      exact ⟨(i + 1, b ++ xs), ⟨by dsimp only; omega, by dsimp only; rw [qL_take s i q4, ← hw (), q5, g2, List.append_assoc]⟩, by dsimp only; omega, ⟨q1, q2, q3, trivial⟩, trivial, rfl, by rw [hX]; intro k hk; cases hk⟩
    have g2 := fun _ : Unit => g2
    by_cases hi : i < s.length
    · have hc := fun _ : Unit => cutN s i hi
      have two : ∀ x : UInt8, IntKind.i64.wrap (at' s i) = (x.toNat : Int) → b ++ ({ data := #[92] } : ByteArray).data.toList ++ (s.take ((i : Int) + 1).toNat).drop ((i : Int)).toNat = b ++ [92, x] := fun x hx => by
        rw [hc (), ← hw (), hx, by8_self, List.append_assoc]
        rfl
      have one : Unit → b ++ (s.take ((i : Int) + 1).toNat).drop ((i : Int)).toNat = b ++ [by8 (IntKind.i64.wrap (at' s i))] := fun _ => by rw [hc (), hw ()]
      have low : Unit → b ++ ({ data := #[92, 117, 48, 48] } : ByteArray).data.toList ++ (hexS16.take (IntKind.i64.wrap (at' s i) / 16 + 1).toNat).drop (IntKind.i64.wrap (at' s i) / 16).toNat ++ (hexS16.take (IntKind.i64.wrap (at' s i) % 16 + 1).toNat).drop (IntKind.i64.wrap (at' s i) % 16).toNat = b ++ [92, 117, 48, 48, hexD (IntKind.i64.wrap (at' s i) / 16), hexD (IntKind.i64.wrap (at' s i) % 16)] := fun _ => by
        rw [cut1 hexS16 (IntKind.i64.wrap (at' s i) / 16) (by omega) (by omega), cut1 hexS16 (IntKind.i64.wrap (at' s i) % 16) (by omega) (by omega), hexS_D (IntKind.i64.wrap (at' s i) / 16) (by omega) (by omega), hexS_D (IntKind.i64.wrap (at' s i) % 16) (by omega) (by omega), by8_self, by8_self, List.append_assoc, List.append_assoc]
        rfl
      repeat' (first | with_reducible (first | refine t_seq ?_ | refine t_region ?_ | refine c_nil ?_ | refine n_then ?_ | refine t_ret ?_ | refine t_skip ?_ | refine t_exit ?_ | refine t_block ?_ | refine n_block ?_ | refine e_then ?_ | refine x_then ?_ | refine x_block ?_ | refine t_draw ?_) | refine r_val rfl rfl True.intro ?_ | refine r_gskip rfl rfl rfl ?_ | refine r_gskip2 rfl rfl rfl ?_ | refine r_gval rfl rfl rfl rfl True.intro ?_ | refine t_true rfl ?_ | refine t_false rfl ?_ | ((first | refine t_cond_d rfl ?_ ?_ | refine t_cond_i rfl ?_ ?_ | refine t_cond_j rfl ?_ ?_ | refine t_cond_s rfl ?_ ?_ | refine t_cond_n rfl ?_ ?_ | refine t_cond rfl ?_ ?_ | refine c_split_d rfl rfl ?_ ?_ | refine c_split_i rfl rfl ?_ ?_ | refine c_split_j rfl rfl ?_ ?_ | refine c_split_s rfl rfl ?_ ?_ | refine c_split_n rfl rfl ?_ ?_) <;> intro <;> try (first | (rename_i hz; exact Bool.noConfusion (show true = false from hz)) | (rename_i hz; exact Bool.noConfusion (show false = true from hz)) | (exfalso; omega))) | ((first | refine r_val rfl rfl ?_ ?_ | refine r_gval rfl rfl rfl rfl ?_ ?_ | refine r_obj rfl rfl ?_ ?_ | refine r_sto rfl ?_ ?_ | refine r_gobj rfl rfl rfl rfl ?_ ?_); focus (first | (simp only [List.length_append, List.length_drop, List.length_take, List.length_cons, List.length_nil]; omega) | omega | exact Nat.le_of_ble_eq_true rfl | ((repeat first | rw [wrap_u8] | rw [IntKind.wrap_i64] | rw [IntKind.wrap_i32] | rw [wrap_u32'] | rw [wrap_u64']); (repeat' refine And.intro ?_ ?_) <;> omega) | ((repeat' refine And.intro ?_ ?_) <;> first | omega | rfl | exact Nat.le_refl _ | exact Nat.le_of_ble_eq_true rfl | exact bytesF_one _) | (simp_all; done) | (simp_all; omega))) | refine e_hit rfl ?_ | refine e_miss rfl ?_ | with_reducible refine ⟨by kernel_rfl, ?_⟩ | refine x_end rfl ?_ | ((with_reducible refine c_grd ?_); (fail_if_success (refine c_lit true rfl rfl rfl ?_)); (fail_if_success (refine c_lit false rfl rfl rfl ?_)); refine c_split rfl rfl (fun _ => ?_) (fun _ => ?_)))
      all_goals first
        | exact done _ _ [92, 98] _ rfl rfl rfl hi (qI_8 (by assumption)) rfl
        | exact done _ _ [92, 116] _ rfl rfl rfl hi (qI_9 (by assumption)) rfl
        | exact done _ _ [92, 110] _ rfl rfl rfl hi (qI_10 (by assumption)) rfl
        | exact done _ _ [92, 102] _ rfl rfl rfl hi (qI_12 (by assumption)) rfl
        | exact done _ _ [92, 114] _ rfl rfl rfl hi (qI_13 (by assumption)) rfl
        | exact done _ _ [by8 (IntKind.i64.wrap (at' s i))] _ rfl rfl rfl hi (qI_one (by assumption) (by assumption) (by assumption)) (one ())
        | exact done _ _ [92, 34] _ rfl rfl rfl hi (qI_34 (by assumption)) (two 34 (by assumption))
        | exact done _ _ [92, 92] _ rfl rfl rfl hi (qI_92 (by assumption)) (two 92 (by assumption))
        | exact done _ _ [92, 117, 48, 48, hexD (IntKind.i64.wrap (at' s i) / 16), hexD (IntKind.i64.wrap (at' s i) % 16)] _ rfl rfl rfl hi (qI_low ‹_› ‹_› ‹_› ‹_› ‹_› ‹_›) (low ())
    ·
      clear done
      repeat' (first | with_reducible (first | refine t_seq ?_ | refine t_region ?_ | refine c_nil ?_ | refine n_then ?_ | refine t_ret ?_ | refine t_skip ?_ | refine t_exit ?_ | refine t_block ?_ | refine n_block ?_ | refine e_then ?_ | refine x_then ?_ | refine x_block ?_ | refine t_draw ?_) | refine r_val rfl rfl True.intro ?_ | refine r_gskip rfl rfl rfl ?_ | refine r_gskip2 rfl rfl rfl ?_ | refine r_gval rfl rfl rfl rfl True.intro ?_ | refine t_true rfl ?_ | refine t_false rfl ?_ | ((first | refine t_cond_d rfl ?_ ?_ | refine t_cond_i rfl ?_ ?_ | refine t_cond_j rfl ?_ ?_ | refine t_cond_s rfl ?_ ?_ | refine t_cond_n rfl ?_ ?_ | refine t_cond rfl ?_ ?_ | refine c_split_d rfl rfl ?_ ?_ | refine c_split_i rfl rfl ?_ ?_ | refine c_split_j rfl rfl ?_ ?_ | refine c_split_s rfl rfl ?_ ?_ | refine c_split_n rfl rfl ?_ ?_) <;> intro <;> try (first | (rename_i hz; exact Bool.noConfusion (show true = false from hz)) | (rename_i hz; exact Bool.noConfusion (show false = true from hz)) | (exfalso; omega))) | ((first | refine r_val rfl rfl ?_ ?_ | refine r_gval rfl rfl rfl rfl ?_ ?_ | refine r_obj rfl rfl ?_ ?_ | refine r_sto rfl ?_ ?_ | refine r_gobj rfl rfl rfl rfl ?_ ?_); focus (first | (simp only [List.length_cons, List.length_nil]; omega) | omega | exact Nat.le_of_ble_eq_true rfl | ((repeat first | rw [wrap_u8] | rw [IntKind.wrap_i64] | rw [IntKind.wrap_i32] | rw [wrap_u32'] | rw [wrap_u64']); (repeat' refine And.intro ?_ ?_) <;> omega) | ((repeat' refine And.intro ?_ ?_) <;> first | omega | rfl | exact Nat.le_refl _ | exact Nat.le_of_ble_eq_true rfl | exact bytesF_one _) | (simp_all; done) | (simp_all; omega))) | refine e_hit rfl ?_ | refine e_miss rfl ?_ | with_reducible refine ⟨by kernel_rfl, ?_⟩ | refine x_end rfl ?_ | ((with_reducible refine c_grd ?_); (fail_if_success (refine c_lit true rfl rfl rfl ?_)); (fail_if_success (refine c_lit false rfl rfl rfl ?_)); refine c_split rfl rfl (fun _ => ?_) (fun _ => ?_)))
      rw [g2 (), List.take_of_length_le (by omega)]

end Go.Proofs.YtbegohehjkjnmaaGreatDoor.Flow

namespace Go.Proofs.YtbegohehjkjnmaaGreatDoor.Flow
open Go

theorem quoteL_len (s : List UInt8) : (quoteL s).length ≤ 6 * s.length + 2 := by
  have := qL_len s
  unfold quoteL
  split
  · simp
    omega
  · simp

end Go.Proofs.YtbegohehjkjnmaaGreatDoor.Flow

namespace Go.Proofs.YtbegohehjkjnmaaGreatDoor.Flow
open Go

theorem parts_snoc (mp : Bool) (x : J) : ∀ (l : List J) (f : Bool) (ks : List (List UInt8)), partsT mp f (l ++ [x]) ks = partsT mp f l ks ++ (aheadT mp (f && l.isEmpty) (ks.drop l.length) ++ textJ x)
  | [], f, ks => by
    rw [List.nil_append, partsT, partsT, partsT, List.append_nil]
    cases f <;> rfl
  | y :: l, f, ks => by
    rw [List.cons_append, partsT, parts_snoc mp x l false ks.tail, partsT]
    simp only [List.append_assoc, List.length_cons, List.isEmpty_cons, Bool.and_false, Bool.false_and, List.drop_tail]
def partN (mp : Bool) (l : List J) (ks : List (List UInt8)) (i : Nat) : List UInt8 := partsT mp true (l.take i) ks
theorem partN_zero (mp : Bool) (l : List J) (ks : List (List UInt8)) : partN mp l ks 0 = [] := by
  unfold partN
  rw [List.take_zero, partsT]
theorem partN_all (mp : Bool) (l : List J) (ks : List (List UInt8)) : partN mp l ks l.length = partsT mp true l ks := by
  unfold partN
  rw [List.take_length]
theorem partN_succ (mp : Bool) {l : List J} (ks : List (List UInt8)) {i : Nat} (h : i < l.length) :
    partN mp l ks (i + 1) = ((partN mp l ks i ++ (if i = 0 then [] else [44])) ++ (if mp = true then quoteL (ks.getD i []) ++ [58] else [])) ++ textJ (l.getD i j0) := by
  unfold partN
  have e : l.take (i + 1) = l.take i ++ [l.getD i j0] := by
    rw [List.take_add_one]
    have : l[i]? = some (l.getD i j0) := by simp [List.getD_eq_getElem?_getD, h]
    rw [this]
    rfl
  rw [e, parts_snoc]
  have e2 : (true && (l.take i).isEmpty) = decide (i = 0) := by
    by_cases h0 : i = 0
    · subst h0
      rw [List.take_zero]
      rfl
    · rw [decide_eq_false h0, Bool.true_and]
      cases hq : (l.take i).isEmpty with
      | false => rfl
      | true =>
        have := List.isEmpty_iff_length_eq_zero.1 hq
        rw [List.length_take] at this
        omega
  have e3 : (ks.drop (l.take i).length).headD [] = ks.getD i [] := by
    rw [List.length_take, Nat.min_eq_left (by omega)]
    simp [List.headD_eq_head?_getD, List.getD_eq_getElem?_getD, List.head?_drop]
  rw [e2]
  unfold aheadT
  rw [e3]
  simp only [List.append_assoc, decide_eq_true_eq]

theorem quote_le (s : List UInt8) : (quoteL s).length ≤ 6 * s.length + 2 := quoteL_len s
theorem parts_le {d : Nat} (ih : ∀ x, rightJ d x = true → (textJ x).length + 4 ≤ 1010 * jb x) : ∀ (l : List J) (ks : List (List UInt8)) (mp f : Bool), l.all (rightJ d) = true → (partsT mp f l ks).length ≤ 1010 * (jbL l + txL ks)
  | [], _, _, _, _ => by
    rw [partsT]
    exact Nat.zero_le _
  | x :: r, ks, mp, f, h => by
    rw [List.all_cons, Bool.and_eq_true] at h
    have h1 := ih x h.1
    have h2 := parts_le ih r ks.tail mp false h.2
    rw [partsT, jbL]
    have ha : (aheadT mp f ks).length + 1010 * txL ks.tail ≤ 1010 * txL ks + 4 := by
      unfold aheadT
      cases ks with
      | nil => cases f <;> cases mp <;> decide
      | cons k kr =>
        have := quote_le k
        have e1 : (k :: kr).headD [] = k := rfl
        have e2 : (k :: kr).tail = kr := rfl
        rw [e1, e2, txL]
        cases f <;> cases mp <;> simp only [if_true, if_false, Bool.false_eq_true, List.length_append, List.length_cons, List.length_nil] <;> omega
    simp only [List.length_append]
    omega
theorem text_le : ∀ (d : Nat) (x : J), rightJ d x = true → (textJ x).length + 4 ≤ 1010 * jb x := by
  intro d
  induction d with
  | zero => intro x h; cases h
  | succ d ih =>
    rintro ⟨k, y, n, dg, e, t, l, ks⟩ h
    have hp := parts_le ih l ks
    rw [textJ, jb]
    rw [right_mk] at h
    have qt := quote_le t
    by_cases k0 : k = 0
    · rw [if_pos k0]
      show 4 + 4 ≤ _
      omega
    rw [if_neg k0]
    by_cases k1 : k = 1
    · rw [if_pos k1]
      cases y
      · show 5 + 4 ≤ _
        omega
      · show 4 + 4 ≤ _
        omega
    rw [if_neg k1]
    rw [if_neg (fun q => q.elim k0 k1)] at h
    by_cases k2 : k = 2
    · rw [if_pos k2] at h ⊢
      have := textF_len (rightB_P h)
      omega
    rw [if_neg k2] at h ⊢
    by_cases k3 : k = 3
    · rw [if_pos k3]
      omega
    rw [if_neg k3] at h ⊢
    by_cases k4 : k = 4
    · rw [if_pos k4]
      rw [if_neg (by omega), if_pos k4] at h
      have := hp false true h
      simp only [List.length_append, List.length_cons, List.length_nil]
      omega
    rw [if_neg k4] at h ⊢
    by_cases k5 : k = 5
    · rw [if_pos k5, Bool.and_eq_true] at h
      have := hp (decide (k = 5)) true h.2
      simp only [List.length_append, List.length_cons, List.length_nil]
      omega
    · rw [if_neg k5] at h
      cases h

end Go.Proofs.YtbegohehjkjnmaaGreatDoor.Flow
