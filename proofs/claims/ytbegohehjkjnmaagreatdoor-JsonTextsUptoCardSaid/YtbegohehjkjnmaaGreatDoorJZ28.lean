/- The texts J28, one behind the other. -/
import Derived.Test.YtbegohehjkjnmaaGreatDoorJZ25
import Derived.Test.YtbegohehjkjnmaaGreatDoorJZ26
import Derived.Test.YtbegohehjkjnmaaGreatDoorJZ27
namespace Go.Proofs.YtbegohehjkjnmaaGreatDoor.Flow
open Go

theorem CtrO.weakJ {P : Program} {f : FuncId} {args args' : List D} {ow ow' : Ow} {d : D} (hC : CtrO P f args' ow d ow') (hn : args'.length = args.length) (h : ∀ j, j < args.length → Weak (args.getD j .any) (args'.getD j .any)) : CtrO P f args ow d ow' := by
  intro X vs hids hH hI hs hr
  exact hC X vs hids hH hI (hs.trans hn.symm) fun j hj => (hr j (hn ▸ hj)).weak (h j (hn ▸ hj))
theorem CtrO.weakJ2 {P : Program} {f : FuncId} {a b b' : D} {ow ow' : Ow} {d : D} (hC : CtrO P f [a, b'] ow d ow') (h : Weak b b') : CtrO P f [a, b] ow d ow' := hC.weakJ rfl fun j hj => match j, hj with
  | 0, _ => .refl _
  | 1, _ => h
theorem CtrO.weakJ4 {P : Program} {f : FuncId} {a b b' c e : D} {ow ow' : Ow} {d : D} (hC : CtrO P f [a, b', c, e] ow d ow') (h : Weak b b') : CtrO P f [a, b, c, e] ow d ow' := hC.weakJ rfl fun j hj => match j, hj with
  | 0, _ => .refl _
  | 1, _ => h
  | 2, _ => .refl _
  | 3, _ => .refl _

def blV (m : List UInt8) (cs : List D) : Ow := [(3, .bld 40 (.gs 200 1 m.length (bytesF m))), (200, .row 5 1 m.length), (5, .var cs)]
theorem blV_ids {a m : List UInt8} {cs : List D} : ∀ k ∈ (bl a).map (·.1), k ∈ (blV m cs).map (·.1) := fun k hk => by
  have hk : k ∈ [3, 200] := hk
  show k ∈ [3, 200, 5]
  simp only [List.mem_cons, List.not_mem_nil, or_false] at hk ⊢
  omega

set_option maxRecDepth 100000 in
set_option maxHeartbeats 4000000 in
theorem jparts_ctr (k : Int) (b g : Bool) (d : List UInt8) (e : Int) (t : List UInt8) (l : List J) (ks : List (List UInt8)) (op en : List UInt8) (a : List UInt8) (dp : Nat) (mp : Bool) (hmp : mp = decide (k = 5))
    (hb : jbL l + txL ks ≤ 1000000) (hop : op.length ≤ 10) (hen : en.length ≤ 10) (ha : a.length ≤ 200000000000) (hr : l.all (rightJ dp) = true) (hks : mp = true → ks.length = l.length)
    (hp : ∀ i, i < l.length → ∀ a' : List UInt8, a'.length ≤ a.length + 10 + 1010 * (jbL l + txL ks) → CtrO Tryz.prog 14 [.pv 3 0, .ag (jP (l.getD i j0))] (bl a') (.tu []) (bl (a' ++ textJ (l.getD i j0)))) :
    CtrO Tryz.prog 26 [.pv 3 0, .ag [.i .i64 k, .b b, .b g, .s d, .i .i64 e, .s t, .sl 8 l.length (jG l), .sl 1 ks.length (txF ks)], .s op, .s en] (bl a) (.tu []) (bl (a ++ (op ++ partsT mp true l ks ++ en))) := by
  have hll : l.length ≤ 1000000 := by
    have := jwL_jbL l
    have := jwL_len l
    omega
  have hkk : ∀ i, (ks.getD i []).length ≤ 1000000 := fun i => by
    have := txL_at (ks := ks) (i := i)
    omega
  have hpl := parts_le (text_le dp) l ks mp true hr
  have hpn : ∀ i, i ≤ l.length → (partN mp l ks i).length ≤ 1010 * (jbL l + txL ks) := fun i hi => by
    have h1 := partN_all mp l ks
    have mono : ∀ n i, i + n = l.length → (partN mp l ks i).length ≤ (partN mp l ks l.length).length := by
      intro n
      induction n with
      | zero => intro i h; rw [show i = l.length by omega]; exact Nat.le_refl _
      | succ n ih =>
        intro i h
        have h2 := ih (i + 1) (by omega)
        rw [partN_succ mp ks (show i < l.length by omega)] at h2
        simp only [List.length_append] at h2
        omega
    have := mono (l.length - i) i (by omega)
    rw [h1] at this
    omega
  have cO := write_ctr a op (by omega)
  have e0 : a ++ op = (a ++ op) ++ partN mp l ks 0 := by rw [partN_zero, List.append_nil]
  rw [e0] at cO
  clear e0
  refine r_methM Tryz.func26 rfl Tryz.ntmps26 Tryz.results26 rfl rfl rfl rfl rfl fun X hL hX => ?_
  repeat' (first | with_reducible (first | refine t_seq ?_ | refine t_region ?_ | refine c_nil ?_ | refine n_then ?_ | refine t_ret ?_ | refine t_skip ?_ | refine t_exit ?_ | refine t_block ?_ | refine n_block ?_ | refine e_then ?_ | refine x_then ?_ | refine x_block ?_ | refine t_draw ?_) | refine r_val rfl rfl True.intro ?_ | refine r_gskip rfl rfl rfl ?_ | refine r_gskip2 rfl rfl rfl ?_ | refine r_gval rfl rfl rfl rfl True.intro ?_ | refine t_true rfl ?_ | refine t_false rfl ?_ | ((first | refine t_cond_d rfl ?_ ?_ | refine t_cond_i rfl ?_ ?_ | refine t_cond_j rfl ?_ ?_ | refine t_cond_s rfl ?_ ?_ | refine t_cond_n rfl ?_ ?_ | refine t_cond rfl ?_ ?_ | refine c_split_d rfl rfl ?_ ?_ | refine c_split_i rfl rfl ?_ ?_ | refine c_split_j rfl rfl ?_ ?_ | refine c_split_s rfl rfl ?_ ?_ | refine c_split_n rfl rfl ?_ ?_) <;> intro <;> try (first | (rename_i hz; exact Bool.noConfusion (show true = false from hz)) | (rename_i hz; exact Bool.noConfusion (show false = true from hz)) | (exfalso; omega))) | ((first | refine r_val rfl rfl ?_ ?_ | refine r_gval rfl rfl rfl rfl ?_ ?_ | refine r_obj rfl rfl ?_ ?_ | refine r_sto rfl ?_ ?_ | refine r_gobj rfl rfl rfl rfl ?_ ?_); focus (first | omega | exact Nat.le_of_ble_eq_true rfl | ((repeat first | rw [wrap_u8] | rw [IntKind.wrap_i64] | rw [IntKind.wrap_i32] | rw [wrap_u32'] | rw [wrap_u64']); (repeat' refine And.intro ?_ ?_) <;> omega) | ((repeat' refine And.intro ?_ ?_) <;> first | omega | rfl | exact Nat.le_refl _ | exact Nat.le_of_ble_eq_true rfl | exact bytesF_one _) | (simp_all; done) | (simp_all; omega))) | refine e_hit rfl ?_ | refine e_miss rfl ?_ | with_reducible refine ⟨by kernel_rfl, ?_⟩ | refine x_endM rfl rfl ?_ | refine n_endM rfl rfl ?_ | refine r_lend2 (f := 23) 3 200 rfl rfl Tryz.call23 rfl rfl rfl rfl rfl rfl rfl rfl rfl cO ?_ | ((with_reducible refine c_grd ?_); (fail_if_success (refine c_lit true rfl rfl rfl ?_)); (fail_if_success (refine c_lit false rfl rfl rfl ?_)); refine c_split rfl rfl (fun _ => ?_) (fun _ => ?_)))
  refine T.loop hL (fun i : Nat => [(0, .pv 3 0), (3, .s en), (5, .pv 5 0), (14, .sl 8 l.length (jG l)), (15, .i .i64 l.length), (16, .i .i64 i)]) (fun i => blV ((a ++ op) ++ partN mp l ks i) [.i .i64 k, .b b, .b g, .s d, .i .i64 e, .s t, .sl 8 l.length (jG l), .sl 1 ks.length (txF ks)])
    (fun i => i ≤ l.length) (fun i => l.length - i) 0 (Nat.zero_le _)
    ⟨⟨rfl, rfl, rfl, rfl, rfl, rfl, trivial⟩, ⟨.inl rfl, rfl, rfl, trivial⟩, rfl, by rw [hX]; exact blV_ids⟩ ?_
  intro i hi
  have hbi := hpn i hi
  have hnat : (i : Int).toNat = i := Int.toNat_natCast i
  by_cases hil : i < l.length
  · have hbs := hpn (i + 1) hil
    have hs := partN_succ mp ks hil
    rw [hs] at hbs
    simp only [List.length_append] at hbs
    have hjp : jP (l.getD i j0) = jP (l.getD (i : Int).toNat j0) := by rw [hnat]
    cases mp with
    | true =>
      have hk5 : k = 5 := of_decide_eq_true hmp.symm
      have hik : i < ks.length := by have := hks rfl; omega
      have cQ := quote_ctr (ks.getD (i : Int).toNat []) (by have := hkk (i : Int).toNat; omega)
      have hq : quoteL (ks.getD i []) = quoteL (ks.getD (i : Int).toNat []) := by rw [hnat]
      rw [if_pos rfl, hq] at hs hbs
      clear hq
      generalize quoteL (ks.getD (i : Int).toNat []) = Q at *
      simp only [List.length_append, List.length_cons, List.length_nil] at hbs
      by_cases h0 : i = 0
      · rw [if_pos h0] at hbs
        simp only [List.length_nil] at hbs
        have cK := write_ctr ((a ++ op) ++ partN true l ks i) (Q ++ [58]) (by simp only [List.length_append, List.length_cons, List.length_nil] at *; omega)
        have cP := hp i hil (((a ++ op) ++ partN true l ks i) ++ (Q ++ [58])) (by simp only [List.length_append, List.length_cons, List.length_nil] at *; omega)
        have eF : (((a ++ op) ++ partN true l ks i) ++ (Q ++ [58])) ++ textJ (l.getD i j0) = (a ++ op) ++ partN true l ks (i + 1) := by
          rw [hs, if_pos h0]
          simp only [List.append_assoc, List.append_nil]
        rw [eF] at cP
        have h0i : (i : Int) = 0 := by omega
        rw [hjp] at cP
        clear hs hp hpl hpn hkk hjp
        repeat' (first | refine r_call (f := 25) rfl rfl Tryz.call25 rfl cQ ?_ | refine r_lend2 (f := 23) 3 200 rfl rfl Tryz.call23 rfl rfl rfl rfl rfl rfl rfl rfl rfl cK ?_ | refine r_lend2 (f := 14) 3 200 rfl rfl Tryz.call14 rfl rfl rfl rfl rfl rfl rfl rfl rfl cP ?_ | with_reducible (first | refine t_seq ?_ | refine t_region ?_ | refine c_nil ?_ | refine n_then ?_ | refine t_ret ?_ | refine t_skip ?_ | refine t_exit ?_ | refine t_block ?_ | refine n_block ?_ | refine e_then ?_ | refine x_then ?_ | refine x_block ?_ | refine t_draw ?_) | refine r_val rfl rfl True.intro ?_ | refine r_gskip rfl rfl rfl ?_ | refine r_gskip2 rfl rfl rfl ?_ | refine r_gval rfl rfl rfl rfl True.intro ?_ | refine t_true rfl ?_ | refine t_false rfl ?_ | ((first | refine t_cond_d rfl ?_ ?_ | refine t_cond_i rfl ?_ ?_ | refine t_cond_j rfl ?_ ?_ | refine t_cond_s rfl ?_ ?_ | refine t_cond_n rfl ?_ ?_ | refine t_cond rfl ?_ ?_ | refine c_split_d rfl rfl ?_ ?_ | refine c_split_i rfl rfl ?_ ?_ | refine c_split_j rfl rfl ?_ ?_ | refine c_split_s rfl rfl ?_ ?_ | refine c_split_n rfl rfl ?_ ?_) <;> intro <;> try (first | (rename_i hz; exact Bool.noConfusion (show true = false from hz)) | (rename_i hz; exact Bool.noConfusion (show false = true from hz)) | (exfalso; omega))) | ((first | refine r_val rfl rfl ?_ ?_ | refine r_gval rfl rfl rfl rfl ?_ ?_ | refine r_obj rfl rfl ?_ ?_ | refine r_sto rfl ?_ ?_ | refine r_gobj rfl rfl rfl rfl ?_ ?_); focus (first | (simp only [List.length_cons, List.length_nil]; omega) | omega | exact Nat.le_of_ble_eq_true rfl | ((repeat first | rw [wrap_u8] | rw [IntKind.wrap_i64] | rw [IntKind.wrap_i32] | rw [wrap_u32'] | rw [wrap_u64']); (repeat' refine And.intro ?_ ?_) <;> omega) | ((repeat' refine And.intro ?_ ?_) <;> first | omega | rfl | exact Nat.le_refl _ | exact Nat.le_of_ble_eq_true rfl | exact bytesF_one _) | (simp_all; done) | (simp_all; omega))) | refine e_hit rfl ?_ | refine e_miss rfl ?_ | with_reducible refine ⟨by kernel_rfl, ?_⟩ | refine x_endM rfl rfl ?_ | refine n_endM rfl rfl ?_ | ((with_reducible refine c_grd ?_); (fail_if_success (refine c_lit true rfl rfl rfl ?_)); (fail_if_success (refine c_lit false rfl rfl rfl ?_)); refine c_split rfl rfl (fun _ => ?_) (fun _ => ?_)))
        all_goals exact ⟨i + 1, by omega, by omega, ⟨rfl, rfl, rfl, rfl, rfl, congrArg (D.i .i64) (by omega), trivial⟩, ⟨.inl rfl, rfl, rfl, trivial⟩, rfl, by rw [hX]; exact blV_ids⟩
      · rw [if_neg h0] at hbs
        simp only [List.length_cons, List.length_nil] at hbs
        have cC := write_ctr ((a ++ op) ++ partN true l ks i) [44] (by simp only [List.length_append, List.length_cons, List.length_nil] at *; omega)
        have cK := write_ctr (((a ++ op) ++ partN true l ks i) ++ [44]) (Q ++ [58]) (by simp only [List.length_append, List.length_cons, List.length_nil] at *; omega)
        have cP := hp i hil ((((a ++ op) ++ partN true l ks i) ++ [44]) ++ (Q ++ [58])) (by simp only [List.length_append, List.length_cons, List.length_nil] at *; omega)
        have eF : ((((a ++ op) ++ partN true l ks i) ++ [44]) ++ (Q ++ [58])) ++ textJ (l.getD i j0) = (a ++ op) ++ partN true l ks (i + 1) := by
          rw [hs, if_neg h0]
          simp only [List.append_assoc]
        rw [eF] at cP
        have h0i : 0 < (i : Int) := by omega
        rw [hjp] at cP
        clear hs hp hpl hpn hkk hjp
        repeat' (first | refine r_lend2 (f := 23) 3 200 rfl rfl Tryz.call23 rfl rfl rfl rfl rfl rfl rfl rfl rfl cC ?_ | refine r_call (f := 25) rfl rfl Tryz.call25 rfl cQ ?_ | refine r_lend2 (f := 23) 3 200 rfl rfl Tryz.call23 rfl rfl rfl rfl rfl rfl rfl rfl rfl cK ?_ | refine r_lend2 (f := 14) 3 200 rfl rfl Tryz.call14 rfl rfl rfl rfl rfl rfl rfl rfl rfl cP ?_ | with_reducible (first | refine t_seq ?_ | refine t_region ?_ | refine c_nil ?_ | refine n_then ?_ | refine t_ret ?_ | refine t_skip ?_ | refine t_exit ?_ | refine t_block ?_ | refine n_block ?_ | refine e_then ?_ | refine x_then ?_ | refine x_block ?_ | refine t_draw ?_) | refine r_val rfl rfl True.intro ?_ | refine r_gskip rfl rfl rfl ?_ | refine r_gskip2 rfl rfl rfl ?_ | refine r_gval rfl rfl rfl rfl True.intro ?_ | refine t_true rfl ?_ | refine t_false rfl ?_ | ((first | refine t_cond_d rfl ?_ ?_ | refine t_cond_i rfl ?_ ?_ | refine t_cond_j rfl ?_ ?_ | refine t_cond_s rfl ?_ ?_ | refine t_cond_n rfl ?_ ?_ | refine t_cond rfl ?_ ?_ | refine c_split_d rfl rfl ?_ ?_ | refine c_split_i rfl rfl ?_ ?_ | refine c_split_j rfl rfl ?_ ?_ | refine c_split_s rfl rfl ?_ ?_ | refine c_split_n rfl rfl ?_ ?_) <;> intro <;> try (first | (rename_i hz; exact Bool.noConfusion (show true = false from hz)) | (rename_i hz; exact Bool.noConfusion (show false = true from hz)) | (exfalso; omega))) | ((first | refine r_val rfl rfl ?_ ?_ | refine r_gval rfl rfl rfl rfl ?_ ?_ | refine r_obj rfl rfl ?_ ?_ | refine r_sto rfl ?_ ?_ | refine r_gobj rfl rfl rfl rfl ?_ ?_); focus (first | (simp only [List.length_cons, List.length_nil]; omega) | omega | exact Nat.le_of_ble_eq_true rfl | ((repeat first | rw [wrap_u8] | rw [IntKind.wrap_i64] | rw [IntKind.wrap_i32] | rw [wrap_u32'] | rw [wrap_u64']); (repeat' refine And.intro ?_ ?_) <;> omega) | ((repeat' refine And.intro ?_ ?_) <;> first | omega | rfl | exact Nat.le_refl _ | exact Nat.le_of_ble_eq_true rfl | exact bytesF_one _) | (simp_all; done) | (simp_all; omega))) | refine e_hit rfl ?_ | refine e_miss rfl ?_ | with_reducible refine ⟨by kernel_rfl, ?_⟩ | refine x_endM rfl rfl ?_ | refine n_endM rfl rfl ?_ | ((with_reducible refine c_grd ?_); (fail_if_success (refine c_lit true rfl rfl rfl ?_)); (fail_if_success (refine c_lit false rfl rfl rfl ?_)); refine c_split rfl rfl (fun _ => ?_) (fun _ => ?_)))
        all_goals exact ⟨i + 1, by omega, by omega, ⟨rfl, rfl, rfl, rfl, rfl, congrArg (D.i .i64) (by omega), trivial⟩, ⟨.inl rfl, rfl, rfl, trivial⟩, rfl, by rw [hX]; exact blV_ids⟩
    | false =>
      have hk5 : ¬ k = 5 := of_decide_eq_false hmp.symm
      rw [if_neg Bool.false_ne_true] at hs hbs
      simp only [List.length_nil] at hbs
      by_cases h0 : i = 0
      · rw [if_pos h0] at hbs
        simp only [List.length_nil] at hbs
        have cP := hp i hil ((a ++ op) ++ partN false l ks i) (by simp only [List.length_append] at *; omega)
        have eF : ((a ++ op) ++ partN false l ks i) ++ textJ (l.getD i j0) = (a ++ op) ++ partN false l ks (i + 1) := by
          rw [hs, if_pos h0]
          simp only [List.append_assoc, List.append_nil]
        rw [eF] at cP
        have h0i : (i : Int) = 0 := by omega
        rw [hjp] at cP
        clear hs hp hpl hpn hkk hjp
        repeat' (first | refine r_lend2 (f := 14) 3 200 rfl rfl Tryz.call14 rfl rfl rfl rfl rfl rfl rfl rfl rfl cP ?_ | with_reducible (first | refine t_seq ?_ | refine t_region ?_ | refine c_nil ?_ | refine n_then ?_ | refine t_ret ?_ | refine t_skip ?_ | refine t_exit ?_ | refine t_block ?_ | refine n_block ?_ | refine e_then ?_ | refine x_then ?_ | refine x_block ?_ | refine t_draw ?_) | refine r_val rfl rfl True.intro ?_ | refine r_gskip rfl rfl rfl ?_ | refine r_gskip2 rfl rfl rfl ?_ | refine r_gval rfl rfl rfl rfl True.intro ?_ | refine t_true rfl ?_ | refine t_false rfl ?_ | ((first | refine t_cond_d rfl ?_ ?_ | refine t_cond_i rfl ?_ ?_ | refine t_cond_j rfl ?_ ?_ | refine t_cond_s rfl ?_ ?_ | refine t_cond_n rfl ?_ ?_ | refine t_cond rfl ?_ ?_ | refine c_split_d rfl rfl ?_ ?_ | refine c_split_i rfl rfl ?_ ?_ | refine c_split_j rfl rfl ?_ ?_ | refine c_split_s rfl rfl ?_ ?_ | refine c_split_n rfl rfl ?_ ?_) <;> intro <;> try (first | (rename_i hz; exact Bool.noConfusion (show true = false from hz)) | (rename_i hz; exact Bool.noConfusion (show false = true from hz)) | (exfalso; omega))) | ((first | refine r_val rfl rfl ?_ ?_ | refine r_gval rfl rfl rfl rfl ?_ ?_ | refine r_obj rfl rfl ?_ ?_ | refine r_sto rfl ?_ ?_ | refine r_gobj rfl rfl rfl rfl ?_ ?_); focus (first | (simp only [List.length_cons, List.length_nil]; omega) | omega | exact Nat.le_of_ble_eq_true rfl | ((repeat first | rw [wrap_u8] | rw [IntKind.wrap_i64] | rw [IntKind.wrap_i32] | rw [wrap_u32'] | rw [wrap_u64']); (repeat' refine And.intro ?_ ?_) <;> omega) | ((repeat' refine And.intro ?_ ?_) <;> first | omega | rfl | exact Nat.le_refl _ | exact Nat.le_of_ble_eq_true rfl | exact bytesF_one _) | (simp_all; done) | (simp_all; omega))) | refine e_hit rfl ?_ | refine e_miss rfl ?_ | with_reducible refine ⟨by kernel_rfl, ?_⟩ | refine x_endM rfl rfl ?_ | refine n_endM rfl rfl ?_ | ((with_reducible refine c_grd ?_); (fail_if_success (refine c_lit true rfl rfl rfl ?_)); (fail_if_success (refine c_lit false rfl rfl rfl ?_)); refine c_split rfl rfl (fun _ => ?_) (fun _ => ?_)))
        all_goals exact ⟨i + 1, by omega, by omega, ⟨rfl, rfl, rfl, rfl, rfl, congrArg (D.i .i64) (by omega), trivial⟩, ⟨.inl rfl, rfl, rfl, trivial⟩, rfl, by rw [hX]; exact blV_ids⟩
      · rw [if_neg h0] at hbs
        simp only [List.length_cons, List.length_nil] at hbs
        have cC := write_ctr ((a ++ op) ++ partN false l ks i) [44] (by simp only [List.length_append, List.length_cons, List.length_nil] at *; omega)
        have cP := hp i hil (((a ++ op) ++ partN false l ks i) ++ [44]) (by simp only [List.length_append, List.length_cons, List.length_nil] at *; omega)
        have eF : (((a ++ op) ++ partN false l ks i) ++ [44]) ++ textJ (l.getD i j0) = (a ++ op) ++ partN false l ks (i + 1) := by
          rw [hs, if_neg h0]
          simp only [List.append_assoc, List.append_nil]
        rw [eF] at cP
        have h0i : 0 < (i : Int) := by omega
        rw [hjp] at cP
        clear hs hp hpl hpn hkk hjp
        repeat' (first | refine r_lend2 (f := 23) 3 200 rfl rfl Tryz.call23 rfl rfl rfl rfl rfl rfl rfl rfl rfl cC ?_ | refine r_lend2 (f := 14) 3 200 rfl rfl Tryz.call14 rfl rfl rfl rfl rfl rfl rfl rfl rfl cP ?_ | with_reducible (first | refine t_seq ?_ | refine t_region ?_ | refine c_nil ?_ | refine n_then ?_ | refine t_ret ?_ | refine t_skip ?_ | refine t_exit ?_ | refine t_block ?_ | refine n_block ?_ | refine e_then ?_ | refine x_then ?_ | refine x_block ?_ | refine t_draw ?_) | refine r_val rfl rfl True.intro ?_ | refine r_gskip rfl rfl rfl ?_ | refine r_gskip2 rfl rfl rfl ?_ | refine r_gval rfl rfl rfl rfl True.intro ?_ | refine t_true rfl ?_ | refine t_false rfl ?_ | ((first | refine t_cond_d rfl ?_ ?_ | refine t_cond_i rfl ?_ ?_ | refine t_cond_j rfl ?_ ?_ | refine t_cond_s rfl ?_ ?_ | refine t_cond_n rfl ?_ ?_ | refine t_cond rfl ?_ ?_ | refine c_split_d rfl rfl ?_ ?_ | refine c_split_i rfl rfl ?_ ?_ | refine c_split_j rfl rfl ?_ ?_ | refine c_split_s rfl rfl ?_ ?_ | refine c_split_n rfl rfl ?_ ?_) <;> intro <;> try (first | (rename_i hz; exact Bool.noConfusion (show true = false from hz)) | (rename_i hz; exact Bool.noConfusion (show false = true from hz)) | (exfalso; omega))) | ((first | refine r_val rfl rfl ?_ ?_ | refine r_gval rfl rfl rfl rfl ?_ ?_ | refine r_obj rfl rfl ?_ ?_ | refine r_sto rfl ?_ ?_ | refine r_gobj rfl rfl rfl rfl ?_ ?_); focus (first | (simp only [List.length_cons, List.length_nil]; omega) | omega | exact Nat.le_of_ble_eq_true rfl | ((repeat first | rw [wrap_u8] | rw [IntKind.wrap_i64] | rw [IntKind.wrap_i32] | rw [wrap_u32'] | rw [wrap_u64']); (repeat' refine And.intro ?_ ?_) <;> omega) | ((repeat' refine And.intro ?_ ?_) <;> first | omega | rfl | exact Nat.le_refl _ | exact Nat.le_of_ble_eq_true rfl | exact bytesF_one _) | (simp_all; done) | (simp_all; omega))) | refine e_hit rfl ?_ | refine e_miss rfl ?_ | with_reducible refine ⟨by kernel_rfl, ?_⟩ | refine x_endM rfl rfl ?_ | refine n_endM rfl rfl ?_ | ((with_reducible refine c_grd ?_); (fail_if_success (refine c_lit true rfl rfl rfl ?_)); (fail_if_success (refine c_lit false rfl rfl rfl ?_)); refine c_split rfl rfl (fun _ => ?_) (fun _ => ?_)))
        all_goals exact ⟨i + 1, by omega, by omega, ⟨rfl, rfl, rfl, rfl, rfl, congrArg (D.i .i64) (by omega), trivial⟩, ⟨.inl rfl, rfl, rfl, trivial⟩, rfl, by rw [hX]; exact blV_ids⟩
  · have hie : i = l.length := by omega
    have cE := write_ctr ((a ++ op) ++ partN mp l ks i) en (by simp only [List.length_append]; omega)
    have e1 : ((a ++ op) ++ partN mp l ks i) ++ en = a ++ (op ++ partsT mp true l ks ++ en) := by
      rw [hie, partN_all]
      simp only [List.append_assoc]
    rw [e1] at cE
    repeat' (first | with_reducible (first | refine t_seq ?_ | refine t_region ?_ | refine c_nil ?_ | refine n_then ?_ | refine t_ret ?_ | refine t_skip ?_ | refine t_exit ?_ | refine t_block ?_ | refine n_block ?_ | refine e_then ?_ | refine x_then ?_ | refine x_block ?_ | refine t_draw ?_) | refine r_val rfl rfl True.intro ?_ | refine r_gskip rfl rfl rfl ?_ | refine r_gskip2 rfl rfl rfl ?_ | refine r_gval rfl rfl rfl rfl True.intro ?_ | refine t_true rfl ?_ | refine t_false rfl ?_ | ((first | refine t_cond_d rfl ?_ ?_ | refine t_cond_i rfl ?_ ?_ | refine t_cond_j rfl ?_ ?_ | refine t_cond_s rfl ?_ ?_ | refine t_cond_n rfl ?_ ?_ | refine t_cond rfl ?_ ?_ | refine c_split_d rfl rfl ?_ ?_ | refine c_split_i rfl rfl ?_ ?_ | refine c_split_j rfl rfl ?_ ?_ | refine c_split_s rfl rfl ?_ ?_ | refine c_split_n rfl rfl ?_ ?_) <;> intro <;> try (first | (rename_i hz; exact Bool.noConfusion (show true = false from hz)) | (rename_i hz; exact Bool.noConfusion (show false = true from hz)) | (exfalso; omega))) | ((first | refine r_val rfl rfl ?_ ?_ | refine r_gval rfl rfl rfl rfl ?_ ?_ | refine r_obj rfl rfl ?_ ?_ | refine r_sto rfl ?_ ?_ | refine r_gobj rfl rfl rfl rfl ?_ ?_); focus (first | omega | exact Nat.le_of_ble_eq_true rfl | ((repeat first | rw [wrap_u8] | rw [IntKind.wrap_i64] | rw [IntKind.wrap_i32] | rw [wrap_u32'] | rw [wrap_u64']); (repeat' refine And.intro ?_ ?_) <;> omega) | ((repeat' refine And.intro ?_ ?_) <;> first | omega | rfl | exact Nat.le_refl _ | exact Nat.le_of_ble_eq_true rfl | exact bytesF_one _) | (simp_all; done) | (simp_all; omega))) | refine e_hit rfl ?_ | refine e_miss rfl ?_ | with_reducible refine ⟨by kernel_rfl, ?_⟩ | refine x_endM rfl rfl ?_ | refine n_endM rfl rfl ?_ | refine r_lend2 (f := 23) 3 200 rfl rfl Tryz.call23 rfl rfl rfl rfl rfl rfl rfl rfl rfl cE ?_ | ((with_reducible refine c_grd ?_); (fail_if_success (refine c_lit true rfl rfl rfl ?_)); (fail_if_success (refine c_lit false rfl rfl rfl ?_)); refine c_split rfl rfl (fun _ => ?_) (fun _ => ?_)))
    all_goals exact ⟨⟨.inl rfl, rfl, trivial⟩⟩

set_option maxRecDepth 100000 in
set_option maxHeartbeats 4000000 in
theorem put_jctr : ∀ (dp : Nat) (x : J) (a : List UInt8), rightJ dp x = true → jb x ≤ 1000000 → a.length + 1020 * (dp * jb x) ≤ 200000000000 → CtrO Tryz.prog 14 [.pv 3 0, .ag (jP x)] (bl a) (.tu []) (bl (a ++ textJ x)) := by
  intro dp
  induction dp with
  | zero => intro x a h; cases h
  | succ dp ih =>
    intro x a h hb ha
    refine CtrO.weakJ2 ?_ (jP_Q x)
    have he := jb_eq x
    obtain ⟨k, b, g, d, e, t, l, ks⟩ := x
    replace he : jb (.mk k b g d e t l ks) = 1 + d.length + t.length + jbL l + txL ks := he
    have hm : (dp + 1) * jb (.mk k b g d e t l ks) = dp * jb (.mk k b g d e t l ks) + jb (.mk k b g d e t l ks) := Nat.succ_mul _ _
    have hp : l.all (rightJ dp) = true → ∀ i, i < l.length → ∀ a' : List UInt8, a'.length ≤ a.length + 10 + 1010 * (jbL l + txL ks) → CtrO Tryz.prog 14 [.pv 3 0, .ag (jP (l.getD i j0))] (bl a') (.tu []) (bl (a' ++ textJ (l.getD i j0))) := fun hr i hi a' h' => by
      have h1 := jbL_at hi
      have h2 : dp * jb (l.getD i j0) ≤ dp * jb (.mk k b g d e t l ks) := Nat.mul_le_mul_left _ (by omega)
      refine ih _ a' ?_ (by omega) (by omega)
      rw [show l.getD i j0 = l[i] by simp [List.getD_eq_getElem?_getD, hi]]
      exact List.all_eq_true.1 hr _ (List.getElem_mem hi)
    clear ih
    rw [textJ]
    rw [right_mk] at h
    show CtrO Tryz.prog 14 [.pv 3 0, .ag [.i .i64 k, .b b, .b g, .s d, .i .i64 e, .s t, .sl 8 l.length (jG l), .sl 1 ks.length (txF ks)]] _ _ _
    by_cases k0 : k = 0
    · rw [if_pos k0]
      have cW := write_ctr a nullW (by show a.length + 4 ≤ _; omega)
      generalize a ++ nullW = M at *
      refine r_methM Tryz.func14 rfl Tryz.ntmps14 Tryz.results14 rfl rfl rfl rfl rfl fun X hL hX => ?_
      repeat' (first | refine r_boxAt 60 rfl rfl rfl rfl rfl ?_ | with_reducible (first | refine t_seq ?_ | refine t_region ?_ | refine c_nil ?_ | refine n_then ?_ | refine t_ret ?_ | refine t_skip ?_ | refine t_exit ?_ | refine t_block ?_ | refine n_block ?_ | refine e_then ?_ | refine x_then ?_ | refine x_block ?_ | refine t_draw ?_) | refine r_val rfl rfl True.intro ?_ | refine r_gskip rfl rfl rfl ?_ | refine r_gskip2 rfl rfl rfl ?_ | refine r_gval rfl rfl rfl rfl True.intro ?_ | refine t_true rfl ?_ | refine t_false rfl ?_ | ((first | refine t_cond_d rfl ?_ ?_ | refine t_cond_i rfl ?_ ?_ | refine t_cond_j rfl ?_ ?_ | refine t_cond_s rfl ?_ ?_ | refine t_cond_n rfl ?_ ?_ | refine t_cond rfl ?_ ?_ | refine c_split_d rfl rfl ?_ ?_ | refine c_split_i rfl rfl ?_ ?_ | refine c_split_j rfl rfl ?_ ?_ | refine c_split_s rfl rfl ?_ ?_ | refine c_split_n rfl rfl ?_ ?_) <;> intro <;> try (first | (rename_i hz; exact Bool.noConfusion (show true = false from hz)) | (rename_i hz; exact Bool.noConfusion (show false = true from hz)) | (exfalso; omega))) | ((first | refine r_val rfl rfl ?_ ?_ | refine r_gval rfl rfl rfl rfl ?_ ?_ | refine r_obj rfl rfl ?_ ?_ | refine r_sto rfl ?_ ?_ | refine r_gobj rfl rfl rfl rfl ?_ ?_); focus (first | omega | exact Nat.le_of_ble_eq_true rfl | ((repeat first | rw [wrap_u8] | rw [IntKind.wrap_i64] | rw [IntKind.wrap_i32] | rw [wrap_u32'] | rw [wrap_u64']); (repeat' refine And.intro ?_ ?_) <;> omega) | ((repeat' refine And.intro ?_ ?_) <;> first | omega | rfl | exact Nat.le_refl _ | exact Nat.le_of_ble_eq_true rfl | exact bytesF_one _) | (simp_all; done) | (simp_all; omega))) | refine e_hit rfl ?_ | refine e_miss rfl ?_ | with_reducible refine ⟨by kernel_rfl, ?_⟩ | refine x_endM rfl rfl ?_ | refine n_endM rfl rfl ?_ | refine r_lend2 (f := 23) 3 200 rfl rfl Tryz.call23 rfl rfl rfl rfl rfl rfl rfl rfl rfl cW ?_ | ((with_reducible refine c_grd ?_); (fail_if_success (refine c_lit true rfl rfl rfl ?_)); (fail_if_success (refine c_lit false rfl rfl rfl ?_)); refine c_split rfl rfl (fun _ => ?_) (fun _ => ?_)))
      all_goals exact ⟨⟨.inl rfl, rfl, trivial⟩⟩
    rw [if_neg k0]
    by_cases k1 : k = 1
    · rw [if_pos k1]
      cases b with
      | true =>
        rw [if_pos rfl]
        have cW := write_ctr a trueW (by show a.length + 4 ≤ _; omega)
        generalize a ++ trueW = M at *
        refine r_methM Tryz.func14 rfl Tryz.ntmps14 Tryz.results14 rfl rfl rfl rfl rfl fun X hL hX => ?_
        repeat' (first | refine r_boxAt 60 rfl rfl rfl rfl rfl ?_ | with_reducible (first | refine t_seq ?_ | refine t_region ?_ | refine c_nil ?_ | refine n_then ?_ | refine t_ret ?_ | refine t_skip ?_ | refine t_exit ?_ | refine t_block ?_ | refine n_block ?_ | refine e_then ?_ | refine x_then ?_ | refine x_block ?_ | refine t_draw ?_) | refine r_val rfl rfl True.intro ?_ | refine r_gskip rfl rfl rfl ?_ | refine r_gskip2 rfl rfl rfl ?_ | refine r_gval rfl rfl rfl rfl True.intro ?_ | refine t_true rfl ?_ | refine t_false rfl ?_ | ((first | refine t_cond_d rfl ?_ ?_ | refine t_cond_i rfl ?_ ?_ | refine t_cond_j rfl ?_ ?_ | refine t_cond_s rfl ?_ ?_ | refine t_cond_n rfl ?_ ?_ | refine t_cond rfl ?_ ?_ | refine c_split_d rfl rfl ?_ ?_ | refine c_split_i rfl rfl ?_ ?_ | refine c_split_j rfl rfl ?_ ?_ | refine c_split_s rfl rfl ?_ ?_ | refine c_split_n rfl rfl ?_ ?_) <;> intro <;> try (first | (rename_i hz; exact Bool.noConfusion (show true = false from hz)) | (rename_i hz; exact Bool.noConfusion (show false = true from hz)) | (exfalso; omega))) | ((first | refine r_val rfl rfl ?_ ?_ | refine r_gval rfl rfl rfl rfl ?_ ?_ | refine r_obj rfl rfl ?_ ?_ | refine r_sto rfl ?_ ?_ | refine r_gobj rfl rfl rfl rfl ?_ ?_); focus (first | omega | exact Nat.le_of_ble_eq_true rfl | ((repeat first | rw [wrap_u8] | rw [IntKind.wrap_i64] | rw [IntKind.wrap_i32] | rw [wrap_u32'] | rw [wrap_u64']); (repeat' refine And.intro ?_ ?_) <;> omega) | ((repeat' refine And.intro ?_ ?_) <;> first | omega | rfl | exact Nat.le_refl _ | exact Nat.le_of_ble_eq_true rfl | exact bytesF_one _) | (simp_all; done) | (simp_all; omega))) | refine e_hit rfl ?_ | refine e_miss rfl ?_ | with_reducible refine ⟨by kernel_rfl, ?_⟩ | refine x_endM rfl rfl ?_ | refine n_endM rfl rfl ?_ | refine r_lend2 (f := 23) 3 200 rfl rfl Tryz.call23 rfl rfl rfl rfl rfl rfl rfl rfl rfl cW ?_ | ((with_reducible refine c_grd ?_); (fail_if_success (refine c_lit true rfl rfl rfl ?_)); (fail_if_success (refine c_lit false rfl rfl rfl ?_)); refine c_split rfl rfl (fun _ => ?_) (fun _ => ?_)))
        all_goals exact ⟨⟨.inl rfl, rfl, trivial⟩⟩
      | false =>
        rw [if_neg Bool.false_ne_true]
        have cW := write_ctr a falseW (by show a.length + 5 ≤ _; omega)
        generalize a ++ falseW = M at *
        refine r_methM Tryz.func14 rfl Tryz.ntmps14 Tryz.results14 rfl rfl rfl rfl rfl fun X hL hX => ?_
        repeat' (first | refine r_boxAt 60 rfl rfl rfl rfl rfl ?_ | with_reducible (first | refine t_seq ?_ | refine t_region ?_ | refine c_nil ?_ | refine n_then ?_ | refine t_ret ?_ | refine t_skip ?_ | refine t_exit ?_ | refine t_block ?_ | refine n_block ?_ | refine e_then ?_ | refine x_then ?_ | refine x_block ?_ | refine t_draw ?_) | refine r_val rfl rfl True.intro ?_ | refine r_gskip rfl rfl rfl ?_ | refine r_gskip2 rfl rfl rfl ?_ | refine r_gval rfl rfl rfl rfl True.intro ?_ | refine t_true rfl ?_ | refine t_false rfl ?_ | ((first | refine t_cond_d rfl ?_ ?_ | refine t_cond_i rfl ?_ ?_ | refine t_cond_j rfl ?_ ?_ | refine t_cond_s rfl ?_ ?_ | refine t_cond_n rfl ?_ ?_ | refine t_cond rfl ?_ ?_ | refine c_split_d rfl rfl ?_ ?_ | refine c_split_i rfl rfl ?_ ?_ | refine c_split_j rfl rfl ?_ ?_ | refine c_split_s rfl rfl ?_ ?_ | refine c_split_n rfl rfl ?_ ?_) <;> intro <;> try (first | (rename_i hz; exact Bool.noConfusion (show true = false from hz)) | (rename_i hz; exact Bool.noConfusion (show false = true from hz)) | (exfalso; omega))) | ((first | refine r_val rfl rfl ?_ ?_ | refine r_gval rfl rfl rfl rfl ?_ ?_ | refine r_obj rfl rfl ?_ ?_ | refine r_sto rfl ?_ ?_ | refine r_gobj rfl rfl rfl rfl ?_ ?_); focus (first | omega | exact Nat.le_of_ble_eq_true rfl | ((repeat first | rw [wrap_u8] | rw [IntKind.wrap_i64] | rw [IntKind.wrap_i32] | rw [wrap_u32'] | rw [wrap_u64']); (repeat' refine And.intro ?_ ?_) <;> omega) | ((repeat' refine And.intro ?_ ?_) <;> first | omega | rfl | exact Nat.le_refl _ | exact Nat.le_of_ble_eq_true rfl | exact bytesF_one _) | (simp_all; done) | (simp_all; omega))) | refine e_hit rfl ?_ | refine e_miss rfl ?_ | with_reducible refine ⟨by kernel_rfl, ?_⟩ | refine x_endM rfl rfl ?_ | refine n_endM rfl rfl ?_ | refine r_lend2 (f := 23) 3 200 rfl rfl Tryz.call23 rfl rfl rfl rfl rfl rfl rfl rfl rfl cW ?_ | ((with_reducible refine c_grd ?_); (fail_if_success (refine c_lit true rfl rfl rfl ?_)); (fail_if_success (refine c_lit false rfl rfl rfl ?_)); refine c_split rfl rfl (fun _ => ?_) (fun _ => ?_)))
        all_goals exact ⟨⟨.inl rfl, rfl, trivial⟩⟩
    rw [if_neg k1]
    rw [if_neg (fun q => q.elim k0 k1)] at h
    by_cases k2 : k = 2
    · rw [if_pos k2] at h ⊢
      have hlt := textF_len (rightB_P h)
      have cT := text_ctr g d e (by omega)
      have cW := write_ctr a (textF g d e) (by omega)
      generalize a ++ textF g d e = M at *
      generalize textF g d e = R at *
      refine r_methM Tryz.func14 rfl Tryz.ntmps14 Tryz.results14 rfl rfl rfl rfl rfl fun X hL hX => ?_
      repeat' (first | refine r_boxAt 60 rfl rfl rfl rfl rfl ?_ | refine r_call (f := 24) rfl rfl Tryz.call24 rfl cT ?_ | with_reducible (first | refine t_seq ?_ | refine t_region ?_ | refine c_nil ?_ | refine n_then ?_ | refine t_ret ?_ | refine t_skip ?_ | refine t_exit ?_ | refine t_block ?_ | refine n_block ?_ | refine e_then ?_ | refine x_then ?_ | refine x_block ?_ | refine t_draw ?_) | refine r_val rfl rfl True.intro ?_ | refine r_gskip rfl rfl rfl ?_ | refine r_gskip2 rfl rfl rfl ?_ | refine r_gval rfl rfl rfl rfl True.intro ?_ | refine t_true rfl ?_ | refine t_false rfl ?_ | ((first | refine t_cond_d rfl ?_ ?_ | refine t_cond_i rfl ?_ ?_ | refine t_cond_j rfl ?_ ?_ | refine t_cond_s rfl ?_ ?_ | refine t_cond_n rfl ?_ ?_ | refine t_cond rfl ?_ ?_ | refine c_split_d rfl rfl ?_ ?_ | refine c_split_i rfl rfl ?_ ?_ | refine c_split_j rfl rfl ?_ ?_ | refine c_split_s rfl rfl ?_ ?_ | refine c_split_n rfl rfl ?_ ?_) <;> intro <;> try (first | (rename_i hz; exact Bool.noConfusion (show true = false from hz)) | (rename_i hz; exact Bool.noConfusion (show false = true from hz)) | (exfalso; omega))) | ((first | refine r_val rfl rfl ?_ ?_ | refine r_gval rfl rfl rfl rfl ?_ ?_ | refine r_obj rfl rfl ?_ ?_ | refine r_sto rfl ?_ ?_ | refine r_gobj rfl rfl rfl rfl ?_ ?_); focus (first | omega | exact Nat.le_of_ble_eq_true rfl | ((repeat first | rw [wrap_u8] | rw [IntKind.wrap_i64] | rw [IntKind.wrap_i32] | rw [wrap_u32'] | rw [wrap_u64']); (repeat' refine And.intro ?_ ?_) <;> omega) | ((repeat' refine And.intro ?_ ?_) <;> first | omega | rfl | exact Nat.le_refl _ | exact Nat.le_of_ble_eq_true rfl | exact bytesF_one _) | (simp_all; done) | (simp_all; omega))) | refine e_hit rfl ?_ | refine e_miss rfl ?_ | with_reducible refine ⟨by kernel_rfl, ?_⟩ | refine x_endM rfl rfl ?_ | refine n_endM rfl rfl ?_ | refine r_lend2 (f := 23) 3 200 rfl rfl Tryz.call23 rfl rfl rfl rfl rfl rfl rfl rfl rfl cW ?_ | ((with_reducible refine c_grd ?_); (fail_if_success (refine c_lit true rfl rfl rfl ?_)); (fail_if_success (refine c_lit false rfl rfl rfl ?_)); refine c_split rfl rfl (fun _ => ?_) (fun _ => ?_)))
      all_goals exact ⟨⟨.inl rfl, rfl, trivial⟩⟩
    rw [if_neg k2] at h ⊢
    by_cases k3 : k = 3
    · rw [if_pos k3] at h ⊢
      have hlt := quote_le t
      have cT := quote_ctr t (by omega)
      have cW := write_ctr a (quoteL t) (by omega)
      generalize a ++ quoteL t = M at *
      generalize quoteL t = R at *
      refine r_methM Tryz.func14 rfl Tryz.ntmps14 Tryz.results14 rfl rfl rfl rfl rfl fun X hL hX => ?_
      repeat' (first | refine r_boxAt 60 rfl rfl rfl rfl rfl ?_ | refine r_call (f := 25) rfl rfl Tryz.call25 rfl cT ?_ | with_reducible (first | refine t_seq ?_ | refine t_region ?_ | refine c_nil ?_ | refine n_then ?_ | refine t_ret ?_ | refine t_skip ?_ | refine t_exit ?_ | refine t_block ?_ | refine n_block ?_ | refine e_then ?_ | refine x_then ?_ | refine x_block ?_ | refine t_draw ?_) | refine r_val rfl rfl True.intro ?_ | refine r_gskip rfl rfl rfl ?_ | refine r_gskip2 rfl rfl rfl ?_ | refine r_gval rfl rfl rfl rfl True.intro ?_ | refine t_true rfl ?_ | refine t_false rfl ?_ | ((first | refine t_cond_d rfl ?_ ?_ | refine t_cond_i rfl ?_ ?_ | refine t_cond_j rfl ?_ ?_ | refine t_cond_s rfl ?_ ?_ | refine t_cond_n rfl ?_ ?_ | refine t_cond rfl ?_ ?_ | refine c_split_d rfl rfl ?_ ?_ | refine c_split_i rfl rfl ?_ ?_ | refine c_split_j rfl rfl ?_ ?_ | refine c_split_s rfl rfl ?_ ?_ | refine c_split_n rfl rfl ?_ ?_) <;> intro <;> try (first | (rename_i hz; exact Bool.noConfusion (show true = false from hz)) | (rename_i hz; exact Bool.noConfusion (show false = true from hz)) | (exfalso; omega))) | ((first | refine r_val rfl rfl ?_ ?_ | refine r_gval rfl rfl rfl rfl ?_ ?_ | refine r_obj rfl rfl ?_ ?_ | refine r_sto rfl ?_ ?_ | refine r_gobj rfl rfl rfl rfl ?_ ?_); focus (first | omega | exact Nat.le_of_ble_eq_true rfl | ((repeat first | rw [wrap_u8] | rw [IntKind.wrap_i64] | rw [IntKind.wrap_i32] | rw [wrap_u32'] | rw [wrap_u64']); (repeat' refine And.intro ?_ ?_) <;> omega) | ((repeat' refine And.intro ?_ ?_) <;> first | omega | rfl | exact Nat.le_refl _ | exact Nat.le_of_ble_eq_true rfl | exact bytesF_one _) | (simp_all; done) | (simp_all; omega))) | refine e_hit rfl ?_ | refine e_miss rfl ?_ | with_reducible refine ⟨by kernel_rfl, ?_⟩ | refine x_endM rfl rfl ?_ | refine n_endM rfl rfl ?_ | refine r_lend2 (f := 23) 3 200 rfl rfl Tryz.call23 rfl rfl rfl rfl rfl rfl rfl rfl rfl cW ?_ | ((with_reducible refine c_grd ?_); (fail_if_success (refine c_lit true rfl rfl rfl ?_)); (fail_if_success (refine c_lit false rfl rfl rfl ?_)); refine c_split rfl rfl (fun _ => ?_) (fun _ => ?_)))
      all_goals exact ⟨⟨.inl rfl, rfl, trivial⟩⟩
    rw [if_neg k3] at h ⊢
    by_cases k4 : k = 4
    · rw [if_pos k4]
      rw [if_neg (by omega), if_pos k4] at h
      have cP := jparts_ctr k b g d e t l ks [91] [93] a dp false (decide_eq_false (by omega)).symm (by omega) (by decide) (by decide) (by omega) h (fun q => by cases q) (hp h)
      generalize a ++ ([91] ++ partsT false true l ks ++ [93]) = M at *
      clear hp
      refine r_methM Tryz.func14 rfl Tryz.ntmps14 Tryz.results14 rfl rfl rfl rfl rfl fun X hL hX => ?_
      repeat' (first | refine r_boxAt 60 rfl rfl rfl rfl rfl ?_ | with_reducible (first | refine t_seq ?_ | refine t_region ?_ | refine c_nil ?_ | refine n_then ?_ | refine t_ret ?_ | refine t_skip ?_ | refine t_exit ?_ | refine t_block ?_ | refine n_block ?_ | refine e_then ?_ | refine x_then ?_ | refine x_block ?_ | refine t_draw ?_) | refine r_val rfl rfl True.intro ?_ | refine r_gskip rfl rfl rfl ?_ | refine r_gskip2 rfl rfl rfl ?_ | refine r_gval rfl rfl rfl rfl True.intro ?_ | refine t_true rfl ?_ | refine t_false rfl ?_ | ((first | refine t_cond_d rfl ?_ ?_ | refine t_cond_i rfl ?_ ?_ | refine t_cond_j rfl ?_ ?_ | refine t_cond_s rfl ?_ ?_ | refine t_cond_n rfl ?_ ?_ | refine t_cond rfl ?_ ?_ | refine c_split_d rfl rfl ?_ ?_ | refine c_split_i rfl rfl ?_ ?_ | refine c_split_j rfl rfl ?_ ?_ | refine c_split_s rfl rfl ?_ ?_ | refine c_split_n rfl rfl ?_ ?_) <;> intro <;> try (first | (rename_i hz; exact Bool.noConfusion (show true = false from hz)) | (rename_i hz; exact Bool.noConfusion (show false = true from hz)) | (exfalso; omega))) | ((first | refine r_val rfl rfl ?_ ?_ | refine r_gval rfl rfl rfl rfl ?_ ?_ | refine r_obj rfl rfl ?_ ?_ | refine r_sto rfl ?_ ?_ | refine r_gobj rfl rfl rfl rfl ?_ ?_); focus (first | omega | exact Nat.le_of_ble_eq_true rfl | ((repeat first | rw [wrap_u8] | rw [IntKind.wrap_i64] | rw [IntKind.wrap_i32] | rw [wrap_u32'] | rw [wrap_u64']); (repeat' refine And.intro ?_ ?_) <;> omega) | ((repeat' refine And.intro ?_ ?_) <;> first | omega | rfl | exact Nat.le_refl _ | exact Nat.le_of_ble_eq_true rfl | exact bytesF_one _) | (simp_all; done) | (simp_all; omega))) | refine e_hit rfl ?_ | refine e_miss rfl ?_ | with_reducible refine ⟨by kernel_rfl, ?_⟩ | refine x_endM rfl rfl ?_ | refine n_endM rfl rfl ?_ | refine r_lend2 (f := 26) 3 200 rfl rfl Tryz.call26 rfl rfl rfl rfl rfl rfl rfl rfl rfl cP ?_ | ((with_reducible refine c_grd ?_); (fail_if_success (refine c_lit true rfl rfl rfl ?_)); (fail_if_success (refine c_lit false rfl rfl rfl ?_)); refine c_split rfl rfl (fun _ => ?_) (fun _ => ?_)))
      all_goals exact ⟨⟨.inl rfl, rfl, trivial⟩⟩
    rw [if_neg k4] at h ⊢
    by_cases k5 : k = 5
    · rw [if_pos k5, Bool.and_eq_true, Bool.and_eq_true, decide_eq_true_eq] at h
      have cP := jparts_ctr k b g d e t l ks [123] [125] a dp (decide (k = 5)) rfl (by omega) (by decide) (by decide) (by omega) h.2 (fun _ => h.1.2) (hp h.2)
      generalize a ++ ([123] ++ partsT (decide (k = 5)) true l ks ++ [125]) = M at *
      clear hp
      refine r_methM Tryz.func14 rfl Tryz.ntmps14 Tryz.results14 rfl rfl rfl rfl rfl fun X hL hX => ?_
      repeat' (first | refine r_boxAt 60 rfl rfl rfl rfl rfl ?_ | with_reducible (first | refine t_seq ?_ | refine t_region ?_ | refine c_nil ?_ | refine n_then ?_ | refine t_ret ?_ | refine t_skip ?_ | refine t_exit ?_ | refine t_block ?_ | refine n_block ?_ | refine e_then ?_ | refine x_then ?_ | refine x_block ?_ | refine t_draw ?_) | refine r_val rfl rfl True.intro ?_ | refine r_gskip rfl rfl rfl ?_ | refine r_gskip2 rfl rfl rfl ?_ | refine r_gval rfl rfl rfl rfl True.intro ?_ | refine t_true rfl ?_ | refine t_false rfl ?_ | ((first | refine t_cond_d rfl ?_ ?_ | refine t_cond_i rfl ?_ ?_ | refine t_cond_j rfl ?_ ?_ | refine t_cond_s rfl ?_ ?_ | refine t_cond_n rfl ?_ ?_ | refine t_cond rfl ?_ ?_ | refine c_split_d rfl rfl ?_ ?_ | refine c_split_i rfl rfl ?_ ?_ | refine c_split_j rfl rfl ?_ ?_ | refine c_split_s rfl rfl ?_ ?_ | refine c_split_n rfl rfl ?_ ?_) <;> intro <;> try (first | (rename_i hz; exact Bool.noConfusion (show true = false from hz)) | (rename_i hz; exact Bool.noConfusion (show false = true from hz)) | (exfalso; omega))) | ((first | refine r_val rfl rfl ?_ ?_ | refine r_gval rfl rfl rfl rfl ?_ ?_ | refine r_obj rfl rfl ?_ ?_ | refine r_sto rfl ?_ ?_ | refine r_gobj rfl rfl rfl rfl ?_ ?_); focus (first | omega | exact Nat.le_of_ble_eq_true rfl | ((repeat first | rw [wrap_u8] | rw [IntKind.wrap_i64] | rw [IntKind.wrap_i32] | rw [wrap_u32'] | rw [wrap_u64']); (repeat' refine And.intro ?_ ?_) <;> omega) | ((repeat' refine And.intro ?_ ?_) <;> first | omega | rfl | exact Nat.le_refl _ | exact Nat.le_of_ble_eq_true rfl | exact bytesF_one _) | (simp_all; done) | (simp_all; omega))) | refine e_hit rfl ?_ | refine e_miss rfl ?_ | with_reducible refine ⟨by kernel_rfl, ?_⟩ | refine x_endM rfl rfl ?_ | refine n_endM rfl rfl ?_ | refine r_lend2 (f := 26) 3 200 rfl rfl Tryz.call26 rfl rfl rfl rfl rfl rfl rfl rfl rfl cP ?_ | ((with_reducible refine c_grd ?_); (fail_if_success (refine c_lit true rfl rfl rfl ?_)); (fail_if_success (refine c_lit false rfl rfl rfl ?_)); refine c_split rfl rfl (fun _ => ?_) (fun _ => ?_)))
      all_goals exact ⟨⟨.inl rfl, rfl, trivial⟩⟩
    · rw [if_neg k5] at h
      cases h

theorem right_jb {dp : Nat} {x : J} (h : rightJ dp x = true) : 0 < (textJ x).length := by
  obtain ⟨c, r, h1, _⟩ := text_first h
  rw [h1]
  exact Nat.succ_pos _

set_option maxRecDepth 100000 in
set_option maxHeartbeats 1000000 in
theorem textT_jctr (x : J) (hb : jb x ≤ 1000000) : Ctr Tryz.prog 6 [.ag (jP x)] (.s (if rightJ 64 x = true then textJ x else [])) := by
  have cR := rightT_jctr x (by omega)
  cases hr : rightJ 64 x with
  | false =>
    rw [hr] at cR
    rw [if_neg Bool.false_ne_true]
    refine r_fun Tryz.func6 rfl Tryz.ntmps6 Tryz.results6 rfl rfl fun X hL hX => ?_
    repeat' (first | refine r_call (f := 7) rfl rfl Tryz.call7 rfl cR ?_ | with_reducible (first | refine t_seq ?_ | refine t_region ?_ | refine c_nil ?_ | refine n_then ?_ | refine t_ret ?_ | refine t_skip ?_ | refine t_exit ?_ | refine t_block ?_ | refine n_block ?_ | refine e_then ?_ | refine x_then ?_ | refine x_block ?_ | refine t_draw ?_) | refine r_val rfl rfl True.intro ?_ | refine r_gskip rfl rfl rfl ?_ | refine r_gskip2 rfl rfl rfl ?_ | refine r_gval rfl rfl rfl rfl True.intro ?_ | refine t_true rfl ?_ | refine t_false rfl ?_ | ((first | refine t_cond_d rfl ?_ ?_ | refine t_cond_i rfl ?_ ?_ | refine t_cond_j rfl ?_ ?_ | refine t_cond_s rfl ?_ ?_ | refine t_cond_n rfl ?_ ?_ | refine t_cond rfl ?_ ?_ | refine c_split_d rfl rfl ?_ ?_ | refine c_split_i rfl rfl ?_ ?_ | refine c_split_j rfl rfl ?_ ?_ | refine c_split_s rfl rfl ?_ ?_ | refine c_split_n rfl rfl ?_ ?_) <;> intro <;> try (first | (rename_i hz; exact Bool.noConfusion (show true = false from hz)) | (rename_i hz; exact Bool.noConfusion (show false = true from hz)) | (exfalso; omega))) | ((first | refine r_val rfl rfl ?_ ?_ | refine r_gval rfl rfl rfl rfl ?_ ?_ | refine r_obj rfl rfl ?_ ?_ | refine r_sto rfl ?_ ?_ | refine r_gobj rfl rfl rfl rfl ?_ ?_); focus (first | omega | exact Nat.le_of_ble_eq_true rfl | ((repeat first | rw [wrap_u8] | rw [IntKind.wrap_i64] | rw [IntKind.wrap_i32] | rw [wrap_u32'] | rw [wrap_u64']); (repeat' refine And.intro ?_ ?_) <;> omega) | ((repeat' refine And.intro ?_ ?_) <;> first | omega | rfl | exact Nat.le_refl _ | exact Nat.le_of_ble_eq_true rfl | exact bytesF_one _) | (simp_all; done) | (simp_all; omega))) | refine e_hit rfl ?_ | refine e_miss rfl ?_ | with_reducible refine ⟨by kernel_rfl, ?_⟩ | refine x_end rfl ?_ | refine n_end rfl ?_ | ((with_reducible refine c_grd ?_); (fail_if_success (refine c_lit true rfl rfl rfl ?_)); (fail_if_success (refine c_lit false rfl rfl rfl ?_)); refine c_split rfl rfl (fun _ => ?_) (fun _ => ?_)))
    all_goals rfl
  | true =>
    rw [hr] at cR
    rw [if_pos rfl]
    have hl := text_le 64 x hr
    have hp := right_jb hr
    have cP := put_jctr 64 x [] hr hb (by simp only [List.length_nil]; omega)
    rw [List.nil_append] at cP
    have cS := string_ctr (textJ x) hp (by omega)
    generalize textJ x = R at *
    refine r_fun Tryz.func6 rfl Tryz.ntmps6 Tryz.results6 rfl rfl fun X hL hX => ?_
    repeat' (first | refine r_bld rfl rfl rfl ?_ | refine r_call (f := 7) rfl rfl Tryz.call7 rfl cR ?_ | refine T.adoptB 3 200 5 40 (bytesF []) rfl rfl ?_ | with_reducible (first | refine t_seq ?_ | refine t_region ?_ | refine c_nil ?_ | refine n_then ?_ | refine t_ret ?_ | refine t_skip ?_ | refine t_exit ?_ | refine t_block ?_ | refine n_block ?_ | refine e_then ?_ | refine x_then ?_ | refine x_block ?_ | refine t_draw ?_) | refine r_val rfl rfl True.intro ?_ | refine r_gskip rfl rfl rfl ?_ | refine r_gskip2 rfl rfl rfl ?_ | refine r_gval rfl rfl rfl rfl True.intro ?_ | refine t_true rfl ?_ | refine t_false rfl ?_ | ((first | refine t_cond_d rfl ?_ ?_ | refine t_cond_i rfl ?_ ?_ | refine t_cond_j rfl ?_ ?_ | refine t_cond_s rfl ?_ ?_ | refine t_cond_n rfl ?_ ?_ | refine t_cond rfl ?_ ?_ | refine c_split_d rfl rfl ?_ ?_ | refine c_split_i rfl rfl ?_ ?_ | refine c_split_j rfl rfl ?_ ?_ | refine c_split_s rfl rfl ?_ ?_ | refine c_split_n rfl rfl ?_ ?_) <;> intro <;> try (first | (rename_i hz; exact Bool.noConfusion (show true = false from hz)) | (rename_i hz; exact Bool.noConfusion (show false = true from hz)) | (exfalso; omega))) | ((first | refine r_val rfl rfl ?_ ?_ | refine r_gval rfl rfl rfl rfl ?_ ?_ | refine r_obj rfl rfl ?_ ?_ | refine r_sto rfl ?_ ?_ | refine r_gobj rfl rfl rfl rfl ?_ ?_); focus (first | omega | exact Nat.le_of_ble_eq_true rfl | ((repeat first | rw [wrap_u8] | rw [IntKind.wrap_i64] | rw [IntKind.wrap_i32] | rw [wrap_u32'] | rw [wrap_u64']); (repeat' refine And.intro ?_ ?_) <;> omega) | ((repeat' refine And.intro ?_ ?_) <;> first | omega | rfl | exact Nat.le_refl _ | exact Nat.le_of_ble_eq_true rfl | exact bytesF_one _) | (simp_all; done) | (simp_all; omega))) | refine e_hit rfl ?_ | refine e_miss rfl ?_ | with_reducible refine ⟨by kernel_rfl, ?_⟩ | refine x_end rfl ?_ | refine n_end rfl ?_ | refine r_lend2 (f := 14) 3 200 rfl rfl Tryz.call14 rfl rfl rfl rfl rfl rfl rfl rfl rfl cP ?_ | refine r_lend2 (f := 15) 3 200 rfl rfl Tryz.call15 rfl rfl rfl rfl rfl rfl rfl rfl rfl cS ?_ | ((with_reducible refine c_grd ?_); (fail_if_success (refine c_lit true rfl rfl rfl ?_)); (fail_if_success (refine c_lit false rfl rfl rfl ?_)); refine c_split rfl rfl (fun _ => ?_) (fun _ => ?_)))
    all_goals rfl

end Go.Proofs.YtbegohehjkjnmaaGreatDoor.Flow
