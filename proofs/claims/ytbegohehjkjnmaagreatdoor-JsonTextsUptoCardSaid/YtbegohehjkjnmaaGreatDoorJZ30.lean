/- The texts J30, J9, J10, one behind the other. -/
import Derived.Test.YtbegohehjkjnmaaGreatDoorJZ21
import Derived.Test.YtbegohehjkjnmaaGreatDoorJZ22
import Derived.Test.YtbegohehjkjnmaaGreatDoorJZ24
import Derived.Test.YtbegohehjkjnmaaGreatDoorJZ25
import Derived.Test.YtbegohehjkjnmaaGreatDoorJZ29
namespace Go.Proofs.YtbegohehjkjnmaaGreatDoor.Flow
open Go

set_option maxRecDepth 100000 in
set_option maxHeartbeats 4000000 in
theorem rtext_jctr : ∀ (dp : Nat) (x : J), rightJ dp x = true → jb x ≤ 1000000 → Ctr Tryz.prog 18 [.ag (jP x)] (.s (textJ x)) := by
  intro dp
  induction dp with
  | zero => intro x h; cases h
  | succ dp ih =>
    intro x h hb
    refine Ctr.weak1 ?_ (jP_Q x)
    have he := jb_eq x
    obtain ⟨k, b, g, d, e, t, l, ks⟩ := x
    replace he : jb (.mk k b g d e t l ks) = 1 + d.length + t.length + jbL l + txL ks := he
    have hp : l.all (rightJ dp) = true → ∀ i, i < l.length → Ctr Tryz.prog 18 [.ag (jP (l.getD (i : Int).toNat j0))] (.s (textJ (l.getD i j0))) := fun hr i hi => by
      have h1 := jbL_at hi
      rw [Int.toNat_natCast]
      refine ih _ ?_ (by omega)
      rw [show l.getD i j0 = l[i] by simp [List.getD_eq_getElem?_getD, hi]]
      exact List.all_eq_true.1 hr _ (List.getElem_mem hi)
    clear ih
    have hll : l.length ≤ 1000000 := by
      have := jwL_jbL l
      have := jwL_len l
      omega
    have hkk : ∀ i, (ks.getD i []).length ≤ 1000000 := fun i => by
      have := txL_at (ks := ks) (i := i)
      omega
    rw [textJ]
    rw [right_mk] at h
    show Ctr Tryz.prog 18 [.ag [.i .i64 k, .b b, .b g, .s d, .i .i64 e, .s t, .sl 8 l.length (jG l), .sl 1 ks.length (txF ks)]] _
    by_cases k0 : k = 0
    · rw [if_pos k0]
      refine r_fun Tryz.func18 rfl Tryz.ntmps18 Tryz.results18 rfl rfl fun X hL hX => ?_
      repeat' (first | with_reducible (first | refine t_seq ?_ | refine t_region ?_ | refine c_nil ?_ | refine n_then ?_ | refine t_ret ?_ | refine t_skip ?_ | refine t_exit ?_ | refine t_block ?_ | refine n_block ?_ | refine e_then ?_ | refine x_then ?_ | refine x_block ?_ | refine t_draw ?_) | refine r_val rfl rfl True.intro ?_ | refine r_gskip rfl rfl rfl ?_ | refine r_gskip2 rfl rfl rfl ?_ | refine r_gval rfl rfl rfl rfl True.intro ?_ | refine t_true rfl ?_ | refine t_false rfl ?_ | ((first | refine t_cond_d rfl ?_ ?_ | refine t_cond_i rfl ?_ ?_ | refine t_cond_j rfl ?_ ?_ | refine t_cond_s rfl ?_ ?_ | refine t_cond_n rfl ?_ ?_ | refine t_cond rfl ?_ ?_ | refine c_split_d rfl rfl ?_ ?_ | refine c_split_i rfl rfl ?_ ?_ | refine c_split_j rfl rfl ?_ ?_ | refine c_split_s rfl rfl ?_ ?_ | refine c_split_n rfl rfl ?_ ?_) <;> intro <;> try (first | (rename_i hz; exact Bool.noConfusion (show true = false from hz)) | (rename_i hz; exact Bool.noConfusion (show false = true from hz)) | (exfalso; omega))) | ((first | refine r_val rfl rfl ?_ ?_ | refine r_gval rfl rfl rfl rfl ?_ ?_ | refine r_obj rfl rfl ?_ ?_ | refine r_sto rfl ?_ ?_ | refine r_gobj rfl rfl rfl rfl ?_ ?_); focus (first | omega | exact Nat.le_of_ble_eq_true rfl | ((repeat first | rw [wrap_u8] | rw [IntKind.wrap_i64] | rw [IntKind.wrap_i32] | rw [wrap_u32'] | rw [wrap_u64']); (repeat' refine And.intro ?_ ?_) <;> omega) | ((repeat' refine And.intro ?_ ?_) <;> first | omega | rfl | exact Nat.le_refl _ | exact Nat.le_of_ble_eq_true rfl | exact bytesF_one _) | (simp_all; done) | (simp_all; omega))) | refine e_hit rfl ?_ | refine e_miss rfl ?_ | with_reducible refine ⟨by kernel_rfl, ?_⟩ | refine x_end rfl ?_ | refine n_end rfl ?_ | ((with_reducible refine c_grd ?_); (fail_if_success (refine c_lit true rfl rfl rfl ?_)); (fail_if_success (refine c_lit false rfl rfl rfl ?_)); refine c_split rfl rfl (fun _ => ?_) (fun _ => ?_)))
      all_goals rfl
    rw [if_neg k0]
    by_cases k1 : k = 1
    · rw [if_pos k1]
      cases b with
      | true =>
        rw [if_pos rfl]
        refine r_fun Tryz.func18 rfl Tryz.ntmps18 Tryz.results18 rfl rfl fun X hL hX => ?_
        repeat' (first | with_reducible (first | refine t_seq ?_ | refine t_region ?_ | refine c_nil ?_ | refine n_then ?_ | refine t_ret ?_ | refine t_skip ?_ | refine t_exit ?_ | refine t_block ?_ | refine n_block ?_ | refine e_then ?_ | refine x_then ?_ | refine x_block ?_ | refine t_draw ?_) | refine r_val rfl rfl True.intro ?_ | refine r_gskip rfl rfl rfl ?_ | refine r_gskip2 rfl rfl rfl ?_ | refine r_gval rfl rfl rfl rfl True.intro ?_ | refine t_true rfl ?_ | refine t_false rfl ?_ | ((first | refine t_cond_d rfl ?_ ?_ | refine t_cond_i rfl ?_ ?_ | refine t_cond_j rfl ?_ ?_ | refine t_cond_s rfl ?_ ?_ | refine t_cond_n rfl ?_ ?_ | refine t_cond rfl ?_ ?_ | refine c_split_d rfl rfl ?_ ?_ | refine c_split_i rfl rfl ?_ ?_ | refine c_split_j rfl rfl ?_ ?_ | refine c_split_s rfl rfl ?_ ?_ | refine c_split_n rfl rfl ?_ ?_) <;> intro <;> try (first | (rename_i hz; exact Bool.noConfusion (show true = false from hz)) | (rename_i hz; exact Bool.noConfusion (show false = true from hz)) | (exfalso; omega))) | ((first | refine r_val rfl rfl ?_ ?_ | refine r_gval rfl rfl rfl rfl ?_ ?_ | refine r_obj rfl rfl ?_ ?_ | refine r_sto rfl ?_ ?_ | refine r_gobj rfl rfl rfl rfl ?_ ?_); focus (first | omega | exact Nat.le_of_ble_eq_true rfl | ((repeat first | rw [wrap_u8] | rw [IntKind.wrap_i64] | rw [IntKind.wrap_i32] | rw [wrap_u32'] | rw [wrap_u64']); (repeat' refine And.intro ?_ ?_) <;> omega) | ((repeat' refine And.intro ?_ ?_) <;> first | omega | rfl | exact Nat.le_refl _ | exact Nat.le_of_ble_eq_true rfl | exact bytesF_one _) | (simp_all; done) | (simp_all; omega))) | refine e_hit rfl ?_ | refine e_miss rfl ?_ | with_reducible refine ⟨by kernel_rfl, ?_⟩ | refine x_end rfl ?_ | refine n_end rfl ?_ | ((with_reducible refine c_grd ?_); (fail_if_success (refine c_lit true rfl rfl rfl ?_)); (fail_if_success (refine c_lit false rfl rfl rfl ?_)); refine c_split rfl rfl (fun _ => ?_) (fun _ => ?_)))
        all_goals first | rfl | (exfalso; rename_i q; exact q rfl)
      | false =>
        rw [if_neg Bool.false_ne_true]
        refine r_fun Tryz.func18 rfl Tryz.ntmps18 Tryz.results18 rfl rfl fun X hL hX => ?_
        repeat' (first | with_reducible (first | refine t_seq ?_ | refine t_region ?_ | refine c_nil ?_ | refine n_then ?_ | refine t_ret ?_ | refine t_skip ?_ | refine t_exit ?_ | refine t_block ?_ | refine n_block ?_ | refine e_then ?_ | refine x_then ?_ | refine x_block ?_ | refine t_draw ?_) | refine r_val rfl rfl True.intro ?_ | refine r_gskip rfl rfl rfl ?_ | refine r_gskip2 rfl rfl rfl ?_ | refine r_gval rfl rfl rfl rfl True.intro ?_ | refine t_true rfl ?_ | refine t_false rfl ?_ | ((first | refine t_cond_d rfl ?_ ?_ | refine t_cond_i rfl ?_ ?_ | refine t_cond_j rfl ?_ ?_ | refine t_cond_s rfl ?_ ?_ | refine t_cond_n rfl ?_ ?_ | refine t_cond rfl ?_ ?_ | refine c_split_d rfl rfl ?_ ?_ | refine c_split_i rfl rfl ?_ ?_ | refine c_split_j rfl rfl ?_ ?_ | refine c_split_s rfl rfl ?_ ?_ | refine c_split_n rfl rfl ?_ ?_) <;> intro <;> try (first | (rename_i hz; exact Bool.noConfusion (show true = false from hz)) | (rename_i hz; exact Bool.noConfusion (show false = true from hz)) | (exfalso; omega))) | ((first | refine r_val rfl rfl ?_ ?_ | refine r_gval rfl rfl rfl rfl ?_ ?_ | refine r_obj rfl rfl ?_ ?_ | refine r_sto rfl ?_ ?_ | refine r_gobj rfl rfl rfl rfl ?_ ?_); focus (first | omega | exact Nat.le_of_ble_eq_true rfl | ((repeat first | rw [wrap_u8] | rw [IntKind.wrap_i64] | rw [IntKind.wrap_i32] | rw [wrap_u32'] | rw [wrap_u64']); (repeat' refine And.intro ?_ ?_) <;> omega) | ((repeat' refine And.intro ?_ ?_) <;> first | omega | rfl | exact Nat.le_refl _ | exact Nat.le_of_ble_eq_true rfl | exact bytesF_one _) | (simp_all; done) | (simp_all; omega))) | refine e_hit rfl ?_ | refine e_miss rfl ?_ | with_reducible refine ⟨by kernel_rfl, ?_⟩ | refine x_end rfl ?_ | refine n_end rfl ?_ | ((with_reducible refine c_grd ?_); (fail_if_success (refine c_lit true rfl rfl rfl ?_)); (fail_if_success (refine c_lit false rfl rfl rfl ?_)); refine c_split rfl rfl (fun _ => ?_) (fun _ => ?_)))
        all_goals first | rfl | (exfalso; rename_i q; exact q rfl)
    rw [if_neg k1]
    rw [if_neg (fun q => q.elim k0 k1)] at h
    by_cases k2 : k = 2
    · rw [if_pos k2] at h ⊢
      have cT := rtext_ctr g d e (by omega)
      generalize textF g d e = R at *
      refine r_fun Tryz.func18 rfl Tryz.ntmps18 Tryz.results18 rfl rfl fun X hL hX => ?_
      repeat' (first | refine r_call (f := 35) rfl rfl Tryz.call35 rfl cT ?_ | with_reducible (first | refine t_seq ?_ | refine t_region ?_ | refine c_nil ?_ | refine n_then ?_ | refine t_ret ?_ | refine t_skip ?_ | refine t_exit ?_ | refine t_block ?_ | refine n_block ?_ | refine e_then ?_ | refine x_then ?_ | refine x_block ?_ | refine t_draw ?_) | refine r_val rfl rfl True.intro ?_ | refine r_gskip rfl rfl rfl ?_ | refine r_gskip2 rfl rfl rfl ?_ | refine r_gval rfl rfl rfl rfl True.intro ?_ | refine t_true rfl ?_ | refine t_false rfl ?_ | ((first | refine t_cond_d rfl ?_ ?_ | refine t_cond_i rfl ?_ ?_ | refine t_cond_j rfl ?_ ?_ | refine t_cond_s rfl ?_ ?_ | refine t_cond_n rfl ?_ ?_ | refine t_cond rfl ?_ ?_ | refine c_split_d rfl rfl ?_ ?_ | refine c_split_i rfl rfl ?_ ?_ | refine c_split_j rfl rfl ?_ ?_ | refine c_split_s rfl rfl ?_ ?_ | refine c_split_n rfl rfl ?_ ?_) <;> intro <;> try (first | (rename_i hz; exact Bool.noConfusion (show true = false from hz)) | (rename_i hz; exact Bool.noConfusion (show false = true from hz)) | (exfalso; omega))) | ((first | refine r_val rfl rfl ?_ ?_ | refine r_gval rfl rfl rfl rfl ?_ ?_ | refine r_obj rfl rfl ?_ ?_ | refine r_sto rfl ?_ ?_ | refine r_gobj rfl rfl rfl rfl ?_ ?_); focus (first | omega | exact Nat.le_of_ble_eq_true rfl | ((repeat first | rw [wrap_u8] | rw [IntKind.wrap_i64] | rw [IntKind.wrap_i32] | rw [wrap_u32'] | rw [wrap_u64']); (repeat' refine And.intro ?_ ?_) <;> omega) | ((repeat' refine And.intro ?_ ?_) <;> first | omega | rfl | exact Nat.le_refl _ | exact Nat.le_of_ble_eq_true rfl | exact bytesF_one _) | (simp_all; done) | (simp_all; omega))) | refine e_hit rfl ?_ | refine e_miss rfl ?_ | with_reducible refine ⟨by kernel_rfl, ?_⟩ | refine x_end rfl ?_ | refine n_end rfl ?_ | ((with_reducible refine c_grd ?_); (fail_if_success (refine c_lit true rfl rfl rfl ?_)); (fail_if_success (refine c_lit false rfl rfl rfl ?_)); refine c_split rfl rfl (fun _ => ?_) (fun _ => ?_)))
      all_goals rfl
    rw [if_neg k2] at h ⊢
    by_cases k3 : k = 3
    · rw [if_pos k3] at h ⊢
      have cT := rquote_ctr t (by omega)
      generalize quoteL t = R at *
      refine r_fun Tryz.func18 rfl Tryz.ntmps18 Tryz.results18 rfl rfl fun X hL hX => ?_
      repeat' (first | refine r_call (f := 36) rfl rfl Tryz.call36 rfl cT ?_ | with_reducible (first | refine t_seq ?_ | refine t_region ?_ | refine c_nil ?_ | refine n_then ?_ | refine t_ret ?_ | refine t_skip ?_ | refine t_exit ?_ | refine t_block ?_ | refine n_block ?_ | refine e_then ?_ | refine x_then ?_ | refine x_block ?_ | refine t_draw ?_) | refine r_val rfl rfl True.intro ?_ | refine r_gskip rfl rfl rfl ?_ | refine r_gskip2 rfl rfl rfl ?_ | refine r_gval rfl rfl rfl rfl True.intro ?_ | refine t_true rfl ?_ | refine t_false rfl ?_ | ((first | refine t_cond_d rfl ?_ ?_ | refine t_cond_i rfl ?_ ?_ | refine t_cond_j rfl ?_ ?_ | refine t_cond_s rfl ?_ ?_ | refine t_cond_n rfl ?_ ?_ | refine t_cond rfl ?_ ?_ | refine c_split_d rfl rfl ?_ ?_ | refine c_split_i rfl rfl ?_ ?_ | refine c_split_j rfl rfl ?_ ?_ | refine c_split_s rfl rfl ?_ ?_ | refine c_split_n rfl rfl ?_ ?_) <;> intro <;> try (first | (rename_i hz; exact Bool.noConfusion (show true = false from hz)) | (rename_i hz; exact Bool.noConfusion (show false = true from hz)) | (exfalso; omega))) | ((first | refine r_val rfl rfl ?_ ?_ | refine r_gval rfl rfl rfl rfl ?_ ?_ | refine r_obj rfl rfl ?_ ?_ | refine r_sto rfl ?_ ?_ | refine r_gobj rfl rfl rfl rfl ?_ ?_); focus (first | omega | exact Nat.le_of_ble_eq_true rfl | ((repeat first | rw [wrap_u8] | rw [IntKind.wrap_i64] | rw [IntKind.wrap_i32] | rw [wrap_u32'] | rw [wrap_u64']); (repeat' refine And.intro ?_ ?_) <;> omega) | ((repeat' refine And.intro ?_ ?_) <;> first | omega | rfl | exact Nat.le_refl _ | exact Nat.le_of_ble_eq_true rfl | exact bytesF_one _) | (simp_all; done) | (simp_all; omega))) | refine e_hit rfl ?_ | refine e_miss rfl ?_ | with_reducible refine ⟨by kernel_rfl, ?_⟩ | refine x_end rfl ?_ | refine n_end rfl ?_ | ((with_reducible refine c_grd ?_); (fail_if_success (refine c_lit true rfl rfl rfl ?_)); (fail_if_success (refine c_lit false rfl rfl rfl ?_)); refine c_split rfl rfl (fun _ => ?_) (fun _ => ?_)))
      all_goals rfl
    rw [if_neg k3] at h ⊢
    have hk45 : (k = 4 ∨ k = 5) ∧ l.all (rightJ dp) = true ∧ (k = 5 → ks.length = l.length) := by
      by_cases k5 : k = 5
      · rw [if_pos k5, Bool.and_eq_true, Bool.and_eq_true, decide_eq_true_eq] at h
        exact ⟨.inr k5, h.2, fun _ => h.1.2⟩
      · rw [if_neg k5] at h
        by_cases k4 : k = 4
        · rw [if_pos k4] at h
          exact ⟨.inl k4, h, fun q => absurd q k5⟩
        · rw [if_neg k4] at h
          cases h
    obtain ⟨hk, hr, hks⟩ := hk45
    have hc := hp hr
    clear hp h
    have hval : (if k = 4 then [91] ++ partsT false true l ks ++ [93] else [123] ++ partsT (decide (k = 5)) true l ks ++ [125]) = if k = 4 then [91] ++ partN (decide (k = 5)) l ks l.length ++ [93] else [123] ++ partN (decide (k = 5)) l ks l.length ++ [125] := by
      by_cases k4 : k = 4
      · rw [if_pos k4, if_pos k4, decide_eq_false (by omega), partN_all]
      · rw [if_neg k4, if_neg k4, partN_all]
    rw [hval]
    clear hval
    have hpn : ∀ i, i ≤ l.length → (partN (decide (k = 5)) l ks i).length ≤ 1010 * (jbL l + txL ks) := fun i hi => by
      have hpl := parts_le (text_le dp) l ks (decide (k = 5)) true hr
      have h1 := partN_all (decide (k = 5)) l ks
      have mono : ∀ n i, i + n = l.length → (partN (decide (k = 5)) l ks i).length ≤ (partN (decide (k = 5)) l ks l.length).length := by
        intro n
        induction n with
        | zero => intro i h; rw [show i = l.length by omega]; exact Nat.le_refl _
        | succ n ih =>
          intro i h
          have h2 := ih (i + 1) (by omega)
          rw [partN_succ (decide (k = 5)) ks (show i < l.length by omega)] at h2
          simp only [List.length_append] at h2
          omega
      have := mono (l.length - i) i (by omega)
      rw [h1] at this
      omega
    refine r_fun Tryz.func18 rfl Tryz.ntmps18 Tryz.results18 rfl rfl fun X hL hX => ?_
    repeat' (first | with_reducible (first | refine t_seq ?_ | refine t_region ?_ | refine c_nil ?_ | refine n_then ?_ | refine t_ret ?_ | refine t_skip ?_ | refine t_exit ?_ | refine t_block ?_ | refine n_block ?_ | refine e_then ?_ | refine x_then ?_ | refine x_block ?_ | refine t_draw ?_) | refine r_val rfl rfl True.intro ?_ | refine r_gskip rfl rfl rfl ?_ | refine r_gskip2 rfl rfl rfl ?_ | refine r_gval rfl rfl rfl rfl True.intro ?_ | refine t_true rfl ?_ | refine t_false rfl ?_ | ((first | refine t_cond_d rfl ?_ ?_ | refine t_cond_i rfl ?_ ?_ | refine t_cond_j rfl ?_ ?_ | refine t_cond_s rfl ?_ ?_ | refine t_cond_n rfl ?_ ?_ | refine t_cond rfl ?_ ?_ | refine c_split_d rfl rfl ?_ ?_ | refine c_split_i rfl rfl ?_ ?_ | refine c_split_j rfl rfl ?_ ?_ | refine c_split_s rfl rfl ?_ ?_ | refine c_split_n rfl rfl ?_ ?_) <;> intro <;> try (first | (rename_i hz; exact Bool.noConfusion (show true = false from hz)) | (rename_i hz; exact Bool.noConfusion (show false = true from hz)) | (exfalso; omega))) | ((first | refine r_val rfl rfl ?_ ?_ | refine r_gval rfl rfl rfl rfl ?_ ?_ | refine r_obj rfl rfl ?_ ?_ | refine r_sto rfl ?_ ?_ | refine r_gobj rfl rfl rfl rfl ?_ ?_); focus (first | omega | exact Nat.le_of_ble_eq_true rfl | ((repeat first | rw [wrap_u8] | rw [IntKind.wrap_i64] | rw [IntKind.wrap_i32] | rw [wrap_u32'] | rw [wrap_u64']); (repeat' refine And.intro ?_ ?_) <;> omega) | ((repeat' refine And.intro ?_ ?_) <;> first | omega | rfl | exact Nat.le_refl _ | exact Nat.le_of_ble_eq_true rfl | exact bytesF_one _) | (simp_all; done) | (simp_all; omega))) | refine e_hit rfl ?_ | refine e_miss rfl ?_ | with_reducible refine ⟨by kernel_rfl, ?_⟩ | refine x_end rfl ?_ | refine n_end rfl ?_ | ((with_reducible refine c_grd ?_); (fail_if_success (refine c_lit true rfl rfl rfl ?_)); (fail_if_success (refine c_lit false rfl rfl rfl ?_)); refine c_split rfl rfl (fun _ => ?_) (fun _ => ?_)))
    refine T.loop hL (fun i : Nat => [(1, .pv 1 0), (3, .s (partN (decide (k = 5)) l ks i)), (4, .i .i64 i)]) (fun _ => [(1, .var [.i .i64 k, .b b, .b g, .s d, .i .i64 e, .s t, .sl 8 l.length (jG l), .sl 1 ks.length (txF ks)])])
      (fun i => i ≤ l.length) (fun i => l.length - i) 0 (Nat.zero_le _)
      ⟨⟨rfl, congrArg D.s (partN_zero _ _ _).symm, rfl, trivial⟩, ⟨rfl, trivial⟩, rfl, by rw [hX]; simp⟩ ?_
    intro i hi
    have hbi := hpn i hi
    have hnat : (i : Int).toNat = i := Int.toNat_natCast i
    by_cases hil : i < l.length
    · have hbs := hpn (i + 1) hil
      have hs := partN_succ (decide (k = 5)) ks hil
      have c5 := hc i hil
      rw [hs] at hbs
      simp only [List.length_append] at hbs
      by_cases k5 : k = 5
      · have hik : i < ks.length := by have := hks k5; omega
        rw [decide_eq_true k5, if_pos rfl] at hs
        rw [decide_eq_true k5, if_pos rfl] at hbs
        rw [decide_eq_true k5] at hbi ⊢
        simp only [List.length_append, List.length_cons, List.length_nil] at hbs
        have cQ := rquote_ctr (ks.getD (i : Int).toNat []) (by have := hkk (i : Int).toNat; omega)
        have hq : quoteL (ks.getD i []) = quoteL (ks.getD (i : Int).toNat []) := by rw [hnat]
        rw [hq] at hs hbs
        clear hq
        generalize quoteL (ks.getD (i : Int).toNat []) = Q at *
        generalize textJ (l.getD i j0) = R at *
        by_cases h0 : i = 0
        · rw [if_pos h0] at hs hbs
          simp only [List.length_nil] at hbs
          repeat' (first | refine r_call (f := 36) rfl rfl Tryz.call36 rfl cQ ?_ | refine r_call (f := 18) rfl rfl Tryz.call18 rfl c5 ?_ | with_reducible (first | refine t_seq ?_ | refine t_region ?_ | refine c_nil ?_ | refine n_then ?_ | refine t_ret ?_ | refine t_skip ?_ | refine t_exit ?_ | refine t_block ?_ | refine n_block ?_ | refine e_then ?_ | refine x_then ?_ | refine x_block ?_ | refine t_draw ?_) | refine r_val rfl rfl True.intro ?_ | refine r_gskip rfl rfl rfl ?_ | refine r_gskip2 rfl rfl rfl ?_ | refine r_gval rfl rfl rfl rfl True.intro ?_ | refine t_true rfl ?_ | refine t_false rfl ?_ | ((first | refine t_cond_d rfl ?_ ?_ | refine t_cond_i rfl ?_ ?_ | refine t_cond_j rfl ?_ ?_ | refine t_cond_s rfl ?_ ?_ | refine t_cond_n rfl ?_ ?_ | refine t_cond rfl ?_ ?_ | refine c_split_d rfl rfl ?_ ?_ | refine c_split_i rfl rfl ?_ ?_ | refine c_split_j rfl rfl ?_ ?_ | refine c_split_s rfl rfl ?_ ?_ | refine c_split_n rfl rfl ?_ ?_) <;> intro <;> try (first | (rename_i hz; exact Bool.noConfusion (show true = false from hz)) | (rename_i hz; exact Bool.noConfusion (show false = true from hz)) | (exfalso; omega))) | ((first | refine r_val rfl rfl ?_ ?_ | refine r_gval rfl rfl rfl rfl ?_ ?_ | refine r_obj rfl rfl ?_ ?_ | refine r_sto rfl ?_ ?_ | refine r_gobj rfl rfl rfl rfl ?_ ?_); focus (first | (simp only [List.length_append, List.length_cons, List.length_nil]; omega) | omega | exact Nat.le_of_ble_eq_true rfl | ((repeat first | rw [wrap_u8] | rw [IntKind.wrap_i64] | rw [IntKind.wrap_i32] | rw [wrap_u32'] | rw [wrap_u64']); (repeat' refine And.intro ?_ ?_) <;> omega) | ((repeat' refine And.intro ?_ ?_) <;> first | omega | rfl | exact Nat.le_refl _ | exact Nat.le_of_ble_eq_true rfl | exact bytesF_one _) | (simp_all; done) | (simp_all; omega))) | refine e_hit rfl ?_ | refine e_miss rfl ?_ | with_reducible refine ⟨by kernel_rfl, ?_⟩ | refine x_end rfl ?_ | refine n_end rfl ?_ | ((with_reducible refine c_grd ?_); (fail_if_success (refine c_lit true rfl rfl rfl ?_)); (fail_if_success (refine c_lit false rfl rfl rfl ?_)); refine c_split rfl rfl (fun _ => ?_) (fun _ => ?_)))
          all_goals exact ⟨i + 1, by omega, by omega, ⟨rfl, congrArg D.s (by rw [hs]; simp only [List.append_assoc, List.append_nil]), congrArg (D.i .i64) (by omega), trivial⟩, ⟨rfl, trivial⟩, rfl, by rw [hX]; simp⟩
        · rw [if_neg h0] at hs hbs
          simp only [List.length_cons, List.length_nil] at hbs
          repeat' (first | refine r_call (f := 36) rfl rfl Tryz.call36 rfl cQ ?_ | refine r_call (f := 18) rfl rfl Tryz.call18 rfl c5 ?_ | with_reducible (first | refine t_seq ?_ | refine t_region ?_ | refine c_nil ?_ | refine n_then ?_ | refine t_ret ?_ | refine t_skip ?_ | refine t_exit ?_ | refine t_block ?_ | refine n_block ?_ | refine e_then ?_ | refine x_then ?_ | refine x_block ?_ | refine t_draw ?_) | refine r_val rfl rfl True.intro ?_ | refine r_gskip rfl rfl rfl ?_ | refine r_gskip2 rfl rfl rfl ?_ | refine r_gval rfl rfl rfl rfl True.intro ?_ | refine t_true rfl ?_ | refine t_false rfl ?_ | ((first | refine t_cond_d rfl ?_ ?_ | refine t_cond_i rfl ?_ ?_ | refine t_cond_j rfl ?_ ?_ | refine t_cond_s rfl ?_ ?_ | refine t_cond_n rfl ?_ ?_ | refine t_cond rfl ?_ ?_ | refine c_split_d rfl rfl ?_ ?_ | refine c_split_i rfl rfl ?_ ?_ | refine c_split_j rfl rfl ?_ ?_ | refine c_split_s rfl rfl ?_ ?_ | refine c_split_n rfl rfl ?_ ?_) <;> intro <;> try (first | (rename_i hz; exact Bool.noConfusion (show true = false from hz)) | (rename_i hz; exact Bool.noConfusion (show false = true from hz)) | (exfalso; omega))) | ((first | refine r_val rfl rfl ?_ ?_ | refine r_gval rfl rfl rfl rfl ?_ ?_ | refine r_obj rfl rfl ?_ ?_ | refine r_sto rfl ?_ ?_ | refine r_gobj rfl rfl rfl rfl ?_ ?_); focus (first | (simp only [List.length_append, List.length_cons, List.length_nil]; omega) | omega | exact Nat.le_of_ble_eq_true rfl | ((repeat first | rw [wrap_u8] | rw [IntKind.wrap_i64] | rw [IntKind.wrap_i32] | rw [wrap_u32'] | rw [wrap_u64']); (repeat' refine And.intro ?_ ?_) <;> omega) | ((repeat' refine And.intro ?_ ?_) <;> first | omega | rfl | exact Nat.le_refl _ | exact Nat.le_of_ble_eq_true rfl | exact bytesF_one _) | (simp_all; done) | (simp_all; omega))) | refine e_hit rfl ?_ | refine e_miss rfl ?_ | with_reducible refine ⟨by kernel_rfl, ?_⟩ | refine x_end rfl ?_ | refine n_end rfl ?_ | ((with_reducible refine c_grd ?_); (fail_if_success (refine c_lit true rfl rfl rfl ?_)); (fail_if_success (refine c_lit false rfl rfl rfl ?_)); refine c_split rfl rfl (fun _ => ?_) (fun _ => ?_)))
          all_goals exact ⟨i + 1, by omega, by omega, ⟨rfl, congrArg D.s (by rw [hs]; simp only [List.append_assoc]), congrArg (D.i .i64) (by omega), trivial⟩, ⟨rfl, trivial⟩, rfl, by rw [hX]; simp⟩
      · rw [decide_eq_false k5, if_neg Bool.false_ne_true, List.append_nil] at hs
        rw [decide_eq_false k5, if_neg Bool.false_ne_true] at hbs
        rw [decide_eq_false k5] at hbi ⊢
        generalize textJ (l.getD i j0) = R at *
        by_cases h0 : i = 0
        · rw [if_pos h0] at hs hbs
          simp only [List.length_nil] at hbs
          repeat' (first | refine r_call (f := 36) rfl rfl Tryz.call36 rfl cQ ?_ | refine r_call (f := 18) rfl rfl Tryz.call18 rfl c5 ?_ | with_reducible (first | refine t_seq ?_ | refine t_region ?_ | refine c_nil ?_ | refine n_then ?_ | refine t_ret ?_ | refine t_skip ?_ | refine t_exit ?_ | refine t_block ?_ | refine n_block ?_ | refine e_then ?_ | refine x_then ?_ | refine x_block ?_ | refine t_draw ?_) | refine r_val rfl rfl True.intro ?_ | refine r_gskip rfl rfl rfl ?_ | refine r_gskip2 rfl rfl rfl ?_ | refine r_gval rfl rfl rfl rfl True.intro ?_ | refine t_true rfl ?_ | refine t_false rfl ?_ | ((first | refine t_cond_d rfl ?_ ?_ | refine t_cond_i rfl ?_ ?_ | refine t_cond_j rfl ?_ ?_ | refine t_cond_s rfl ?_ ?_ | refine t_cond_n rfl ?_ ?_ | refine t_cond rfl ?_ ?_ | refine c_split_d rfl rfl ?_ ?_ | refine c_split_i rfl rfl ?_ ?_ | refine c_split_j rfl rfl ?_ ?_ | refine c_split_s rfl rfl ?_ ?_ | refine c_split_n rfl rfl ?_ ?_) <;> intro <;> try (first | (rename_i hz; exact Bool.noConfusion (show true = false from hz)) | (rename_i hz; exact Bool.noConfusion (show false = true from hz)) | (exfalso; omega))) | ((first | refine r_val rfl rfl ?_ ?_ | refine r_gval rfl rfl rfl rfl ?_ ?_ | refine r_obj rfl rfl ?_ ?_ | refine r_sto rfl ?_ ?_ | refine r_gobj rfl rfl rfl rfl ?_ ?_); focus (first | (simp only []; omega) | omega | exact Nat.le_of_ble_eq_true rfl | ((repeat first | rw [wrap_u8] | rw [IntKind.wrap_i64] | rw [IntKind.wrap_i32] | rw [wrap_u32'] | rw [wrap_u64']); (repeat' refine And.intro ?_ ?_) <;> omega) | ((repeat' refine And.intro ?_ ?_) <;> first | omega | rfl | exact Nat.le_refl _ | exact Nat.le_of_ble_eq_true rfl | exact bytesF_one _) | (simp_all; done) | (simp_all; omega))) | refine e_hit rfl ?_ | refine e_miss rfl ?_ | with_reducible refine ⟨by kernel_rfl, ?_⟩ | refine x_end rfl ?_ | refine n_end rfl ?_ | ((with_reducible refine c_grd ?_); (fail_if_success (refine c_lit true rfl rfl rfl ?_)); (fail_if_success (refine c_lit false rfl rfl rfl ?_)); refine c_split rfl rfl (fun _ => ?_) (fun _ => ?_)))
          all_goals exact ⟨i + 1, by omega, by omega, ⟨rfl, congrArg D.s (by rw [hs]; simp only [List.append_nil]), congrArg (D.i .i64) (by omega), trivial⟩, ⟨rfl, trivial⟩, rfl, by rw [hX]; simp⟩
        · rw [if_neg h0] at hs hbs
          simp only [List.length_cons, List.length_nil] at hbs
          repeat' (first | refine r_call (f := 36) rfl rfl Tryz.call36 rfl cQ ?_ | refine r_call (f := 18) rfl rfl Tryz.call18 rfl c5 ?_ | with_reducible (first | refine t_seq ?_ | refine t_region ?_ | refine c_nil ?_ | refine n_then ?_ | refine t_ret ?_ | refine t_skip ?_ | refine t_exit ?_ | refine t_block ?_ | refine n_block ?_ | refine e_then ?_ | refine x_then ?_ | refine x_block ?_ | refine t_draw ?_) | refine r_val rfl rfl True.intro ?_ | refine r_gskip rfl rfl rfl ?_ | refine r_gskip2 rfl rfl rfl ?_ | refine r_gval rfl rfl rfl rfl True.intro ?_ | refine t_true rfl ?_ | refine t_false rfl ?_ | ((first | refine t_cond_d rfl ?_ ?_ | refine t_cond_i rfl ?_ ?_ | refine t_cond_j rfl ?_ ?_ | refine t_cond_s rfl ?_ ?_ | refine t_cond_n rfl ?_ ?_ | refine t_cond rfl ?_ ?_ | refine c_split_d rfl rfl ?_ ?_ | refine c_split_i rfl rfl ?_ ?_ | refine c_split_j rfl rfl ?_ ?_ | refine c_split_s rfl rfl ?_ ?_ | refine c_split_n rfl rfl ?_ ?_) <;> intro <;> try (first | (rename_i hz; exact Bool.noConfusion (show true = false from hz)) | (rename_i hz; exact Bool.noConfusion (show false = true from hz)) | (exfalso; omega))) | ((first | refine r_val rfl rfl ?_ ?_ | refine r_gval rfl rfl rfl rfl ?_ ?_ | refine r_obj rfl rfl ?_ ?_ | refine r_sto rfl ?_ ?_ | refine r_gobj rfl rfl rfl rfl ?_ ?_); focus (first | (simp only [List.length_append, List.length_cons, List.length_nil]; omega) | omega | exact Nat.le_of_ble_eq_true rfl | ((repeat first | rw [wrap_u8] | rw [IntKind.wrap_i64] | rw [IntKind.wrap_i32] | rw [wrap_u32'] | rw [wrap_u64']); (repeat' refine And.intro ?_ ?_) <;> omega) | ((repeat' refine And.intro ?_ ?_) <;> first | omega | rfl | exact Nat.le_refl _ | exact Nat.le_of_ble_eq_true rfl | exact bytesF_one _) | (simp_all; done) | (simp_all; omega))) | refine e_hit rfl ?_ | refine e_miss rfl ?_ | with_reducible refine ⟨by kernel_rfl, ?_⟩ | refine x_end rfl ?_ | refine n_end rfl ?_ | ((with_reducible refine c_grd ?_); (fail_if_success (refine c_lit true rfl rfl rfl ?_)); (fail_if_success (refine c_lit false rfl rfl rfl ?_)); refine c_split rfl rfl (fun _ => ?_) (fun _ => ?_)))
          all_goals exact ⟨i + 1, by omega, by omega, ⟨rfl, congrArg D.s (by rw [hs]), congrArg (D.i .i64) (by omega), trivial⟩, ⟨rfl, trivial⟩, rfl, by rw [hX]; simp⟩
    · obtain rfl : i = l.length := by omega
      rcases hk with k4 | k5
      · rw [if_pos k4]
        repeat' (first | with_reducible (first | refine t_seq ?_ | refine t_region ?_ | refine c_nil ?_ | refine n_then ?_ | refine t_ret ?_ | refine t_skip ?_ | refine t_exit ?_ | refine t_block ?_ | refine n_block ?_ | refine e_then ?_ | refine x_then ?_ | refine x_block ?_ | refine t_draw ?_) | refine r_val rfl rfl True.intro ?_ | refine r_gskip rfl rfl rfl ?_ | refine r_gskip2 rfl rfl rfl ?_ | refine r_gval rfl rfl rfl rfl True.intro ?_ | refine t_true rfl ?_ | refine t_false rfl ?_ | ((first | refine t_cond_d rfl ?_ ?_ | refine t_cond_i rfl ?_ ?_ | refine t_cond_j rfl ?_ ?_ | refine t_cond_s rfl ?_ ?_ | refine t_cond_n rfl ?_ ?_ | refine t_cond rfl ?_ ?_ | refine c_split_d rfl rfl ?_ ?_ | refine c_split_i rfl rfl ?_ ?_ | refine c_split_j rfl rfl ?_ ?_ | refine c_split_s rfl rfl ?_ ?_ | refine c_split_n rfl rfl ?_ ?_) <;> intro <;> try (first | (rename_i hz; exact Bool.noConfusion (show true = false from hz)) | (rename_i hz; exact Bool.noConfusion (show false = true from hz)) | (exfalso; omega))) | ((first | refine r_val rfl rfl ?_ ?_ | refine r_gval rfl rfl rfl rfl ?_ ?_ | refine r_obj rfl rfl ?_ ?_ | refine r_sto rfl ?_ ?_ | refine r_gobj rfl rfl rfl rfl ?_ ?_); focus (first | (simp only [List.length_append, List.length_cons, List.length_nil]; omega) | omega | exact Nat.le_of_ble_eq_true rfl | ((repeat first | rw [wrap_u8] | rw [IntKind.wrap_i64] | rw [IntKind.wrap_i32] | rw [wrap_u32'] | rw [wrap_u64']); (repeat' refine And.intro ?_ ?_) <;> omega) | ((repeat' refine And.intro ?_ ?_) <;> first | omega | rfl | exact Nat.le_refl _ | exact Nat.le_of_ble_eq_true rfl | exact bytesF_one _) | (simp_all; done) | (simp_all; omega))) | refine e_hit rfl ?_ | refine e_miss rfl ?_ | with_reducible refine ⟨by kernel_rfl, ?_⟩ | refine x_end rfl ?_ | refine n_end rfl ?_ | ((with_reducible refine c_grd ?_); (fail_if_success (refine c_lit true rfl rfl rfl ?_)); (fail_if_success (refine c_lit false rfl rfl rfl ?_)); refine c_split rfl rfl (fun _ => ?_) (fun _ => ?_)))
        all_goals rfl
      · rw [if_neg (by omega)]
        repeat' (first | with_reducible (first | refine t_seq ?_ | refine t_region ?_ | refine c_nil ?_ | refine n_then ?_ | refine t_ret ?_ | refine t_skip ?_ | refine t_exit ?_ | refine t_block ?_ | refine n_block ?_ | refine e_then ?_ | refine x_then ?_ | refine x_block ?_ | refine t_draw ?_) | refine r_val rfl rfl True.intro ?_ | refine r_gskip rfl rfl rfl ?_ | refine r_gskip2 rfl rfl rfl ?_ | refine r_gval rfl rfl rfl rfl True.intro ?_ | refine t_true rfl ?_ | refine t_false rfl ?_ | ((first | refine t_cond_d rfl ?_ ?_ | refine t_cond_i rfl ?_ ?_ | refine t_cond_j rfl ?_ ?_ | refine t_cond_s rfl ?_ ?_ | refine t_cond_n rfl ?_ ?_ | refine t_cond rfl ?_ ?_ | refine c_split_d rfl rfl ?_ ?_ | refine c_split_i rfl rfl ?_ ?_ | refine c_split_j rfl rfl ?_ ?_ | refine c_split_s rfl rfl ?_ ?_ | refine c_split_n rfl rfl ?_ ?_) <;> intro <;> try (first | (rename_i hz; exact Bool.noConfusion (show true = false from hz)) | (rename_i hz; exact Bool.noConfusion (show false = true from hz)) | (exfalso; omega))) | ((first | refine r_val rfl rfl ?_ ?_ | refine r_gval rfl rfl rfl rfl ?_ ?_ | refine r_obj rfl rfl ?_ ?_ | refine r_sto rfl ?_ ?_ | refine r_gobj rfl rfl rfl rfl ?_ ?_); focus (first | (simp only [List.length_append, List.length_cons, List.length_nil]; omega) | omega | exact Nat.le_of_ble_eq_true rfl | ((repeat first | rw [wrap_u8] | rw [IntKind.wrap_i64] | rw [IntKind.wrap_i32] | rw [wrap_u32'] | rw [wrap_u64']); (repeat' refine And.intro ?_ ?_) <;> omega) | ((repeat' refine And.intro ?_ ?_) <;> first | omega | rfl | exact Nat.le_refl _ | exact Nat.le_of_ble_eq_true rfl | exact bytesF_one _) | (simp_all; done) | (simp_all; omega))) | refine e_hit rfl ?_ | refine e_miss rfl ?_ | with_reducible refine ⟨by kernel_rfl, ?_⟩ | refine x_end rfl ?_ | refine n_end rfl ?_ | ((with_reducible refine c_grd ?_); (fail_if_success (refine c_lit true rfl rfl rfl ?_)); (fail_if_success (refine c_lit false rfl rfl rfl ?_)); refine c_split rfl rfl (fun _ => ?_) (fun _ => ?_)))
        all_goals rfl

set_option maxRecDepth 100000 in
theorem rtextT_jctr (x : J) (hb : jb x ≤ 1000000) : Ctr Tryz.prog 9 [.ag (jP x)] (.s (if rightJ 64 x = true then textJ x else [])) := by
  have c1 := rrightT_jctr x (by omega)
  cases hr : rightJ 64 x with
  | false =>
    rw [hr] at c1
    rw [if_neg Bool.false_ne_true]
    refine r_fun Tryz.func9 rfl Tryz.ntmps9 Tryz.results9 rfl rfl fun X hL hX => ?_
    repeat' (first | refine r_call (f := 8) rfl rfl Tryz.call8 rfl c1 ?_ | with_reducible (first | refine t_seq ?_ | refine t_region ?_ | refine c_nil ?_ | refine n_then ?_ | refine t_ret ?_ | refine t_skip ?_ | refine t_exit ?_ | refine t_block ?_ | refine n_block ?_ | refine e_then ?_ | refine x_then ?_ | refine x_block ?_ | refine t_draw ?_) | refine r_val rfl rfl True.intro ?_ | refine r_gskip rfl rfl rfl ?_ | refine r_gskip2 rfl rfl rfl ?_ | refine r_gval rfl rfl rfl rfl True.intro ?_ | refine t_true rfl ?_ | refine t_false rfl ?_ | ((first | refine t_cond_d rfl ?_ ?_ | refine t_cond_i rfl ?_ ?_ | refine t_cond_j rfl ?_ ?_ | refine t_cond_s rfl ?_ ?_ | refine t_cond_n rfl ?_ ?_ | refine t_cond rfl ?_ ?_ | refine c_split_d rfl rfl ?_ ?_ | refine c_split_i rfl rfl ?_ ?_ | refine c_split_j rfl rfl ?_ ?_ | refine c_split_s rfl rfl ?_ ?_ | refine c_split_n rfl rfl ?_ ?_) <;> intro <;> try (first | (rename_i hz; exact Bool.noConfusion (show true = false from hz)) | (rename_i hz; exact Bool.noConfusion (show false = true from hz)) | (exfalso; omega))) | ((first | refine r_val rfl rfl ?_ ?_ | refine r_gval rfl rfl rfl rfl ?_ ?_ | refine r_obj rfl rfl ?_ ?_ | refine r_sto rfl ?_ ?_ | refine r_gobj rfl rfl rfl rfl ?_ ?_); focus (first | omega | exact Nat.le_of_ble_eq_true rfl | ((repeat first | rw [wrap_u8] | rw [IntKind.wrap_i64] | rw [IntKind.wrap_i32] | rw [wrap_u32'] | rw [wrap_u64']); (repeat' refine And.intro ?_ ?_) <;> omega) | ((repeat' refine And.intro ?_ ?_) <;> first | omega | rfl | exact Nat.le_refl _ | exact Nat.le_of_ble_eq_true rfl | exact bytesF_one _) | (simp_all; done) | (simp_all; omega))) | refine e_hit rfl ?_ | refine e_miss rfl ?_ | with_reducible refine ⟨by kernel_rfl, ?_⟩ | refine x_end rfl ?_ | refine n_end rfl ?_ | ((with_reducible refine c_grd ?_); (fail_if_success (refine c_lit true rfl rfl rfl ?_)); (fail_if_success (refine c_lit false rfl rfl rfl ?_)); refine c_split rfl rfl (fun _ => ?_) (fun _ => ?_)))
    all_goals rfl
  | true =>
    rw [hr] at c1
    rw [if_pos rfl]
    have c2 := rtext_jctr 64 x hr hb
    generalize textJ x = R at *
    refine r_fun Tryz.func9 rfl Tryz.ntmps9 Tryz.results9 rfl rfl fun X hL hX => ?_
    repeat' (first | refine r_call (f := 8) rfl rfl Tryz.call8 rfl c1 ?_ | refine r_call (f := 18) rfl rfl Tryz.call18 rfl c2 ?_ | with_reducible (first | refine t_seq ?_ | refine t_region ?_ | refine c_nil ?_ | refine n_then ?_ | refine t_ret ?_ | refine t_skip ?_ | refine t_exit ?_ | refine t_block ?_ | refine n_block ?_ | refine e_then ?_ | refine x_then ?_ | refine x_block ?_ | refine t_draw ?_) | refine r_val rfl rfl True.intro ?_ | refine r_gskip rfl rfl rfl ?_ | refine r_gskip2 rfl rfl rfl ?_ | refine r_gval rfl rfl rfl rfl True.intro ?_ | refine t_true rfl ?_ | refine t_false rfl ?_ | ((first | refine t_cond_d rfl ?_ ?_ | refine t_cond_i rfl ?_ ?_ | refine t_cond_j rfl ?_ ?_ | refine t_cond_s rfl ?_ ?_ | refine t_cond_n rfl ?_ ?_ | refine t_cond rfl ?_ ?_ | refine c_split_d rfl rfl ?_ ?_ | refine c_split_i rfl rfl ?_ ?_ | refine c_split_j rfl rfl ?_ ?_ | refine c_split_s rfl rfl ?_ ?_ | refine c_split_n rfl rfl ?_ ?_) <;> intro <;> try (first | (rename_i hz; exact Bool.noConfusion (show true = false from hz)) | (rename_i hz; exact Bool.noConfusion (show false = true from hz)) | (exfalso; omega))) | ((first | refine r_val rfl rfl ?_ ?_ | refine r_gval rfl rfl rfl rfl ?_ ?_ | refine r_obj rfl rfl ?_ ?_ | refine r_sto rfl ?_ ?_ | refine r_gobj rfl rfl rfl rfl ?_ ?_); focus (first | omega | exact Nat.le_of_ble_eq_true rfl | ((repeat first | rw [wrap_u8] | rw [IntKind.wrap_i64] | rw [IntKind.wrap_i32] | rw [wrap_u32'] | rw [wrap_u64']); (repeat' refine And.intro ?_ ?_) <;> omega) | ((repeat' refine And.intro ?_ ?_) <;> first | omega | rfl | exact Nat.le_refl _ | exact Nat.le_of_ble_eq_true rfl | exact bytesF_one _) | (simp_all; done) | (simp_all; omega))) | refine e_hit rfl ?_ | refine e_miss rfl ?_ | with_reducible refine ⟨by kernel_rfl, ?_⟩ | refine x_end rfl ?_ | refine n_end rfl ?_ | ((with_reducible refine c_grd ?_); (fail_if_success (refine c_lit true rfl rfl rfl ?_)); (fail_if_success (refine c_lit false rfl rfl rfl ?_)); refine c_split rfl rfl (fun _ => ?_) (fun _ => ?_)))
    all_goals rfl

end Go.Proofs.YtbegohehjkjnmaaGreatDoor.Flow

namespace Go.Proofs.YtbegohehjkjnmaaGreatDoor.Flow
open Go

def rjD : JR → D
  | .inl (x, n) => .tu [.ag (jC x), .i .i64 n, .i .i64 0]
  | .inr (p, e) => .tu [.ag (jC j0), .i .i64 p, .i .i64 e]
theorem jC_j0 : jC j0 = [.i .i64 0, .b false, .b false, .s [], .i .i64 0, .s [], .sl 8 0 (jF []), .sl 1 0 (txF [])] := by
  unfold j0
  rw [jC_mk]
  rfl
theorem rj_err (p e : Int) : Weak (.tu [.ag j0C, .i .i64 p, .i .i64 e]) (.tu [.ag (jC j0), .i .i64 p, .i .i64 e]) := .tu3 (lit_weak 0 false) (.refl _) (.refl _)
theorem rj_lit (k : Int) (y : Bool) (n : Int) (m : Nat) (h : n = m) : Weak (.tu [.ag (litC k y), .i .i64 n, .i .i64 0]) (rjD (.inl (litJ k y, m))) := by
  subst h
  exact .tu3 (lit_weak k y) (.refl _) (.refl _)

def ErrOk (val : Nat → JR) : Prop := ∀ i p e, val i = .inr (p, e) → ¬ e = 0
theorem jpeek_err {s : List UInt8} {i p : Nat} {e : Int} (h : jpeek s i = .inr (p, e)) : ¬ e = 0 := by
  unfold jpeek at h
  split at h <;> cases h
  decide
theorem jtext_err {s : List UInt8} {i p : Nat} {e : Int} (h : jtext s i = .inr (p, e)) : ¬ e = 0 := by
  unfold jtext at h
  split at h
  · cases h
  · cases h
    assumption
theorem jnum_err {s : List UInt8} {i p : Nat} {e : Int} (h : jnum s i = .inr (p, e)) : ¬ e = 0 := by
  unfold jnum at h
  split at h
  · cases h
  · cases h
    assumption
theorem jkey_err {s : List UInt8} {i p : Nat} {ks : List (List UInt8)} {e : Int} (h : jkey s i ks = .inr (p, e)) : ¬ e = 0 := by
  unfold jkey at h
  cases h1 : jpeek s i with
  | inr x => rw [h1] at h; cases h; exact jpeek_err h1
  | inl j =>
    rw [h1] at h
    dsimp only at h
    split at h
    · cases h; decide
    · cases h2 : jtext s j with
      | inr x => rw [h2] at h; cases h; exact jtext_err h2
      | inl r =>
        obtain ⟨k, n⟩ := r
        rw [h2] at h
        dsimp only at h
        split at h
        · cases h; decide
        · cases h3 : jpeek s n with
          | inr x => rw [h3] at h; cases h; exact jpeek_err h3
          | inl m =>
            rw [h3] at h
            dsimp only at h
            split at h <;> cases h
            decide
theorem jgo_err {s : List UInt8} {val : Nat → JR} (hv : ErrOk val) {mp : Bool} : ∀ (m i : Nat) (l : List J) (ks : List (List UInt8)) (p : Nat) (e : Int), s.length - i < m → jgo s val mp i l ks = .inr (p, e) → ¬ e = 0 := by
  intro m
  induction m with
  | zero => intro i l ks p e hm h; omega
  | succ m ih =>
    intro i l ks p e hm h
    rw [jgo] at h
    cases h1 : jkeys s mp i ks with
    | inr x =>
      rw [h1] at h
      cases h
      unfold jkeys at h1
      split at h1
      · cases h2 : jkey s i ks with
        | inr x => rw [h2] at h1; cases h1; exact jkey_err h2
        | inl r => rw [h2] at h1; cases h1
      · cases h1
    | inl r =>
      obtain ⟨ks', i1⟩ := r
      rw [h1] at h
      dsimp only at h
      cases h2 : val i1 with
      | inr x => rw [h2] at h; cases h; exact hv _ _ _ h2
      | inl r =>
        obtain ⟨y, i2⟩ := r
        rw [h2] at h
        dsimp only at h
        cases h3 : jpeek s i2 with
        | inr x => rw [h3] at h; cases h; exact jpeek_err h3
        | inl i3 =>
          rw [h3] at h
          dsimp only at h
          split at h
          · cases h
          · split at h
            · split at h
              · exact ih _ _ _ _ _ (by omega) h
              · cases h; decide
            · cases h; decide
theorem jmany_err {s : List UInt8} {val : Nat → JR} (hv : ErrOk val) {mp : Bool} {i p : Nat} {e : Int} (h : jmany s val mp i = .inr (p, e)) : ¬ e = 0 := by
  unfold jmany at h
  cases h1 : jpeek s (i + 1) with
  | inr x => rw [h1] at h; cases h; exact jpeek_err h1
  | inl j =>
    rw [h1] at h
    dsimp only at h
    split at h
    · cases h
    · exact jgo_err hv _ _ _ _ _ _ (Nat.lt_succ_self _) h
theorem jval_err (s : List UInt8) : ∀ d, ErrOk (jval s d) := by
  intro d
  induction d with
  | zero =>
    intro i p e h
    unfold jval at h
    cases h1 : jpeek s i with
    | inr x => rw [h1] at h; cases h; exact jpeek_err h1
    | inl j => rw [h1] at h; cases h; decide
  | succ d ih =>
    intro i p e h
    unfold jval at h
    cases h1 : jpeek s i with
    | inr x => rw [h1] at h; cases h; exact jpeek_err h1
    | inl j =>
      rw [h1] at h
      dsimp only at h
      unfold jword at h
      split at h
      · split at h <;> cases h
        decide
      · split at h
        · split at h <;> cases h
          decide
        · split at h
          · split at h <;> cases h
            decide
          · split at h
            · cases h2 : jtext s j with
              | inr x => rw [h2] at h; cases h; exact jtext_err h2
              | inl r => rw [h2] at h; cases h
            · split at h
              · exact jmany_err ih h
              · split at h
                · exact jmany_err ih h
                · exact jnum_err h

end Go.Proofs.YtbegohehjkjnmaaGreatDoor.Flow

namespace Go.Proofs.YtbegohehjkjnmaaGreatDoor.Flow
open Go

end Go.Proofs.YtbegohehjkjnmaaGreatDoor.Flow
