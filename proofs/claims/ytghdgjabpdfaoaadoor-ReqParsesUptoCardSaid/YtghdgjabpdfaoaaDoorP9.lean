/- The texts Y9, Ya, Yb, one behind the other. -/
import Derived.Test.YtghdgjabpdfaoaaDoorP8
import Derived.Lib.SplitLaws
/- REQ: the document's: blanks, places, small letters. -/
namespace Go.Proofs.YtghdgjabpdfaoaaDoor.Flow
open Go

def blB (c : Int) : Bool := (c == 32) || (c == 9)
theorem blB_mem (s : List UInt8) (i : Nat) : blB (at' s i) = ([32, 9] : List UInt8).contains (s.getD i 0) := by
  have h : ∀ n : Fin 256, blB (n.1 : Int) = ([32, 9] : List UInt8).contains (UInt8.ofNat n.1) := by decide +kernel
  have h := h ⟨(s.getD i 0).toNat, (s.getD i 0).toNat_lt⟩
  rw [show UInt8.ofNat (s.getD i 0).toNat = s.getD i 0 by simp] at h
  rw [atN]
  exact h

theorem blank_ctr (c : Int) : Ctr Tryd.prog 70 [.i .u8 c] (.b (blB c)) := by
  refine r_fun Tryd.func70 rfl Tryd.ntmps70 Tryd.results70 rfl rfl fun X hL hX => ?_
  repeat' (first
    | with_reducible (first | refine t_seq ?_ | refine t_region ?_ | refine c_nil ?_ | refine n_then ?_ | refine t_ret ?_ | refine t_skip ?_ | refine t_exit ?_ | refine t_block ?_ | refine n_block ?_ | refine e_then ?_ | refine x_then ?_ | refine x_block ?_ | refine t_draw ?_)
    | refine r_val rfl rfl True.intro ?_ | refine r_gskip rfl rfl rfl ?_ | refine r_gskip2 rfl rfl rfl ?_ | refine r_gval rfl rfl rfl rfl True.intro ?_
    | refine t_true rfl ?_ | refine t_false rfl ?_
    | ((first | refine t_cond_d rfl ?_ ?_ | refine t_cond_i rfl ?_ ?_ | refine t_cond_j rfl ?_ ?_ | refine t_cond_s rfl ?_ ?_ | refine t_cond_n rfl ?_ ?_ | refine t_cond rfl ?_ ?_ | refine c_split_d rfl rfl ?_ ?_ | refine c_split_i rfl rfl ?_ ?_ | refine c_split_j rfl rfl ?_ ?_ | refine c_split_s rfl rfl ?_ ?_ | refine c_split_n rfl rfl ?_ ?_) <;> intro <;> try (first | contradiction | (exfalso; omega)))
    | ((first | refine r_val rfl rfl ?_ ?_ | refine r_gval rfl rfl rfl rfl ?_ ?_ | refine r_obj rfl rfl ?_ ?_ | refine r_sto rfl ?_ ?_ | refine r_gobj rfl rfl rfl rfl ?_ ?_); focus (first | omega | exact Nat.le_of_ble_eq_true rfl | (simp_all; done) | (simp_all; omega) | ((repeat' refine And.intro ?_ ?_) <;> first | omega | rfl | exact Nat.le_refl _ | exact Nat.le_of_ble_eq_true rfl | exact bytesF_one _ | (simp_all; done) | (simp_all; omega))))
    | refine e_hit rfl ?_ | refine e_miss rfl ?_
    | with_reducible refine ⟨by kernel_rfl, ?_⟩ | refine x_end rfl ?_ | refine n_end rfl ?_ | ((with_reducible refine c_grd ?_); (fail_if_success (refine c_lit true rfl rfl rfl ?_)); (fail_if_success (refine c_lit false rfl rfl rfl ?_)); refine c_split rfl rfl (fun _ => ?_) (fun _ => ?_)))
  all_goals simp_all [blB]

/-! ### Without those at both ends -/
theorem trimR_cons (c : UInt8) (s cs : List UInt8) : Lib.trimRightS (c :: s) cs = if Lib.trimRightS s cs = [] then (if cs.contains c = true then [] else [c]) else c :: Lib.trimRightS s cs := by
  unfold Lib.trimRightS
  rw [List.reverse_cons, List.dropWhile_append]
  by_cases h : (s.reverse.dropWhile (cs.contains ·)).isEmpty = true
  · rw [if_pos h]
    have h' : s.reverse.dropWhile (cs.contains ·) = [] := List.isEmpty_iff.1 h
    rw [h', if_pos (by simp)]
    by_cases hc : cs.contains c = true
    · rw [if_pos hc, List.dropWhile_cons, if_pos hc]
      rfl
    · rw [if_neg hc, List.dropWhile_cons, if_neg hc]
      rfl
  · rw [if_neg h, if_neg (fun e => h (by rw [List.isEmpty_iff]; simpa using e)), List.reverse_append]
    rfl
theorem trim_both (cs : List UInt8) : ∀ s : List UInt8, Lib.trimS s cs = Lib.trimRightS (Lib.trimLeftS s cs) cs
  | [] => rfl
  | c :: s => by
    have ih := trim_both cs s
    unfold Lib.trimS at ih ⊢
    rw [trimR_cons]
    by_cases hc : cs.contains c = true
    · have e : Lib.trimLeftS (c :: s) cs = Lib.trimLeftS s cs := by
        unfold Lib.trimLeftS
        rw [List.dropWhile_cons, if_pos hc]
      rw [e, ← ih]
      by_cases h : Lib.trimRightS s cs = []
      · rw [if_pos h, if_pos hc, h]
      · rw [if_neg h]
        unfold Lib.trimLeftS
        rw [List.dropWhile_cons, if_pos hc]
    · have e : Lib.trimLeftS (c :: s) cs = c :: s := by
        unfold Lib.trimLeftS
        rw [List.dropWhile_cons, if_neg hc]
      rw [e, trimR_cons]
      by_cases h : Lib.trimRightS s cs = []
      · rw [if_pos h, if_neg hc]
        unfold Lib.trimLeftS
        rw [List.dropWhile_cons, if_neg hc]
      · rw [if_neg h]
        unfold Lib.trimLeftS
        rw [List.dropWhile_cons, if_neg hc]
theorem trimL_at {s : List UInt8} (h : 0 < s.length) : (blB (at' s 0) = true → Lib.trimLeftS (s.drop 1) bl = Lib.trimLeftS s bl) ∧ (blB (at' s 0) = false → Lib.trimLeftS s bl = s) := by
  have hb := blB_mem s 0
  cases s with
  | nil => simp at h
  | cons c s =>
    have hb : blB (at' (c :: s) 0) = ([32, 9] : List UInt8).contains c := hb
    rw [hb]
    constructor
    · intro hc
      unfold Lib.trimLeftS
      rw [List.dropWhile_cons, if_pos hc]
      rfl
    · intro hc
      unfold Lib.trimLeftS
      rw [List.dropWhile_cons, if_neg (by rw [hc]; exact Bool.false_ne_true)]
theorem trimR_at {s : List UInt8} (h : 0 < s.length) : (blB (at' s (s.length - 1 : Nat)) = true → Lib.trimRightS (s.take (s.length - 1)) bl = Lib.trimRightS s bl) ∧ (blB (at' s (s.length - 1 : Nat)) = false → Lib.trimRightS s bl = s) := by
  have hb := blB_mem s (s.length - 1)
  obtain ⟨t, c, rfl⟩ : ∃ t c, s = t ++ [c] := ⟨s.dropLast, s.getLast (by intro e; subst e; simp at h), (List.dropLast_concat_getLast _).symm⟩
  have e1 : (t ++ [c]).length - 1 = t.length := by simp
  rw [e1] at hb ⊢
  have e2 : (t ++ [c]).getD t.length 0 = c := by simp [List.getD_eq_getElem?_getD]
  rw [e2] at hb
  rw [hb, List.take_left]
  unfold Lib.trimRightS
  rw [List.reverse_append]
  constructor
  · intro hc
    show _ = (List.dropWhile _ (c :: t.reverse)).reverse
    rw [List.dropWhile_cons, if_pos hc]
  · intro hc
    show (List.dropWhile _ (c :: t.reverse)).reverse = _
    rw [List.dropWhile_cons, if_neg (by rw [hc]; exact Bool.false_ne_true)]
    simp

set_option maxRecDepth 100000 in
set_option maxHeartbeats 1000000 in
theorem rtrim_ctr (s0 : List UInt8) (hs : s0.length ≤ 1000000) : Ctr Tryd.prog 49 [.s s0] (.s (Lib.trimS s0 bl)) := by
  rw [trim_both]
  refine r_fun Tryd.func49 rfl Tryd.ntmps49 Tryd.results49 rfl rfl fun X hL hX => ?_
  repeat' (first
    | refine T.mid (c := .block _ (.loop _)) hL (fun _ : Unit => [(0, .s (Lib.trimLeftS s0 bl))]) (fun _ => []) (fun _ => True) ?_ ?_
    | with_reducible (first | refine t_seq ?_ | refine t_region ?_ | refine c_nil ?_ | refine n_then ?_ | refine t_ret ?_ | refine t_skip ?_ | refine t_exit ?_ | refine t_block ?_ | refine n_block ?_ | refine e_then ?_ | refine x_then ?_ | refine x_block ?_ | refine t_draw ?_)
    | refine r_val rfl rfl True.intro ?_ | refine r_gskip rfl rfl rfl ?_ | refine r_gskip2 rfl rfl rfl ?_ | refine r_gval rfl rfl rfl rfl True.intro ?_
    | refine t_true rfl ?_ | refine t_false rfl ?_
    | ((first | refine t_cond_d rfl ?_ ?_ | refine t_cond_i rfl ?_ ?_ | refine t_cond_j rfl ?_ ?_ | refine t_cond_s rfl ?_ ?_ | refine t_cond_n rfl ?_ ?_ | refine t_cond rfl ?_ ?_ | refine c_split_d rfl rfl ?_ ?_ | refine c_split_i rfl rfl ?_ ?_ | refine c_split_j rfl rfl ?_ ?_ | refine c_split_s rfl rfl ?_ ?_ | refine c_split_n rfl rfl ?_ ?_) <;> intro <;> try (first | (rename_i hz; exact Bool.noConfusion (show true = false from hz)) | (rename_i hz; exact Bool.noConfusion (show false = true from hz)) | (exfalso; omega)))
    | ((first | refine r_val rfl rfl ?_ ?_ | refine r_gval rfl rfl rfl rfl ?_ ?_ | refine r_obj rfl rfl ?_ ?_ | refine r_sto rfl ?_ ?_ | refine r_gobj rfl rfl rfl rfl ?_ ?_); focus (first | omega | exact Nat.le_of_ble_eq_true rfl | (simp only [wrap_u8, IntKind.wrap_i64, IntKind.wrap_i32, wrap_u32', wrap_u64', InI]; (repeat' refine And.intro ?_ ?_) <;> omega) | ((repeat' refine And.intro ?_ ?_) <;> first | omega | rfl | exact Nat.le_refl _ | exact Nat.le_of_ble_eq_true rfl | exact bytesF_one _) | (simp_all; done) | (simp_all; omega)))
    | refine e_hit rfl ?_ | refine e_miss rfl ?_
    | with_reducible refine ⟨by kernel_rfl, ?_⟩ | ((with_reducible refine c_grd ?_); (fail_if_success (refine c_lit true rfl rfl rfl ?_)); (fail_if_success (refine c_lit false rfl rfl rfl ?_)); refine c_split rfl rfl (fun _ => ?_) (fun _ => ?_)))
  · rintro ⟨⟩ -
    have h1 := trimL_len s0 bl
    generalize Lib.trimLeftS s0 bl = s0 at *
    repeat' (first
      | with_reducible (first | refine t_seq ?_ | refine t_region ?_ | refine c_nil ?_ | refine n_then ?_ | refine t_ret ?_ | refine t_skip ?_ | refine t_exit ?_ | refine t_block ?_ | refine n_block ?_ | refine e_then ?_ | refine x_then ?_ | refine x_block ?_ | refine t_draw ?_)
      | refine r_val rfl rfl True.intro ?_ | refine r_gskip rfl rfl rfl ?_ | refine r_gskip2 rfl rfl rfl ?_ | refine r_gval rfl rfl rfl rfl True.intro ?_
      | refine t_true rfl ?_ | refine t_false rfl ?_
      | ((first | refine t_cond_d rfl ?_ ?_ | refine t_cond_i rfl ?_ ?_ | refine t_cond_j rfl ?_ ?_ | refine t_cond_s rfl ?_ ?_ | refine t_cond_n rfl ?_ ?_ | refine t_cond rfl ?_ ?_ | refine c_split_d rfl rfl ?_ ?_ | refine c_split_i rfl rfl ?_ ?_ | refine c_split_j rfl rfl ?_ ?_ | refine c_split_s rfl rfl ?_ ?_ | refine c_split_n rfl rfl ?_ ?_) <;> intro <;> try (first | (rename_i hz; exact Bool.noConfusion (show true = false from hz)) | (rename_i hz; exact Bool.noConfusion (show false = true from hz)) | (exfalso; omega)))
      | ((first | refine r_val rfl rfl ?_ ?_ | refine r_gval rfl rfl rfl rfl ?_ ?_ | refine r_obj rfl rfl ?_ ?_ | refine r_sto rfl ?_ ?_ | refine r_gobj rfl rfl rfl rfl ?_ ?_); focus (first | omega | exact Nat.le_of_ble_eq_true rfl | (simp only [wrap_u8, IntKind.wrap_i64, IntKind.wrap_i32, wrap_u32', wrap_u64', InI]; (repeat' refine And.intro ?_ ?_) <;> omega) | ((repeat' refine And.intro ?_ ?_) <;> first | omega | rfl | exact Nat.le_refl _ | exact Nat.le_of_ble_eq_true rfl | exact bytesF_one _) | (simp_all; done) | (simp_all; omega)))
      | refine e_hit rfl ?_ | refine e_miss rfl ?_
      | with_reducible refine ⟨by kernel_rfl, ?_⟩ | ((with_reducible refine c_grd ?_); (fail_if_success (refine c_lit true rfl rfl rfl ?_)); (fail_if_success (refine c_lit false rfl rfl rfl ?_)); refine c_split rfl rfl (fun _ => ?_) (fun _ => ?_)))
    refine T.loop hL (fun s : List UInt8 => [(0, .s s)]) (fun _ => []) (fun s => Lib.trimRightS s bl = Lib.trimRightS s0 bl ∧ s.length ≤ s0.length) (fun s => s.length) s0 ⟨rfl, Nat.le_refl _⟩
      ⟨⟨rfl, trivial⟩, trivial, rfl, fun q hq => by rw [hX] at hq; simp at hq⟩ ?_
    rintro s ⟨hI, hl⟩
    by_cases hp : 0 < s.length
    · have c1 := blank_ctr (at' s ((s.length : Int) - 1))
      rw [show ((s.length : Int) - 1) = ((s.length - 1 : Nat) : Int) by omega] at c1
      have hA := trimR_at hp
      cases hc : blB (at' s (s.length - 1 : Nat)) with
      | true =>
        rw [hc] at c1
        rw [show ((s.length - 1 : Nat) : Int) = (s.length : Int) - 1 by omega] at c1
        have hA := hA.1 hc
        clear hc
        repeat' (first
          | refine r_gcall (f := 70) rfl rfl rfl rfl Tryd.call70 rfl c1 ?_
          | with_reducible (first | refine t_seq ?_ | refine t_region ?_ | refine c_nil ?_ | refine n_then ?_ | refine t_ret ?_ | refine t_skip ?_ | refine t_exit ?_ | refine t_block ?_ | refine n_block ?_ | refine e_then ?_ | refine x_then ?_ | refine x_block ?_ | refine t_draw ?_)
          | refine r_val rfl rfl True.intro ?_ | refine r_gskip rfl rfl rfl ?_ | refine r_gskip2 rfl rfl rfl ?_ | refine r_gval rfl rfl rfl rfl True.intro ?_
          | refine t_true rfl ?_ | refine t_false rfl ?_
          | ((first | refine t_cond_d rfl ?_ ?_ | refine t_cond_i rfl ?_ ?_ | refine t_cond_j rfl ?_ ?_ | refine t_cond_s rfl ?_ ?_ | refine t_cond_n rfl ?_ ?_ | refine t_cond rfl ?_ ?_ | refine c_split_d rfl rfl ?_ ?_ | refine c_split_i rfl rfl ?_ ?_ | refine c_split_j rfl rfl ?_ ?_ | refine c_split_s rfl rfl ?_ ?_ | refine c_split_n rfl rfl ?_ ?_) <;> intro <;> try (first | (rename_i hz; exact Bool.noConfusion (show true = false from hz)) | (rename_i hz; exact Bool.noConfusion (show false = true from hz)) | (exfalso; omega)))
          | ((first | refine r_val rfl rfl ?_ ?_ | refine r_gval rfl rfl rfl rfl ?_ ?_ | refine r_obj rfl rfl ?_ ?_ | refine r_sto rfl ?_ ?_ | refine r_gobj rfl rfl rfl rfl ?_ ?_); focus (first | omega | exact Nat.le_of_ble_eq_true rfl | (simp only [wrap_u8, IntKind.wrap_i64, IntKind.wrap_i32, wrap_u32', wrap_u64', InI]; (repeat' refine And.intro ?_ ?_) <;> omega) | ((repeat' refine And.intro ?_ ?_) <;> first | omega | rfl | exact Nat.le_refl _ | exact Nat.le_of_ble_eq_true rfl | exact bytesF_one _) | (simp_all; done) | (simp_all; omega)))
          | refine e_hit rfl ?_ | refine e_miss rfl ?_
          | with_reducible refine ⟨by kernel_rfl, ?_⟩ | refine x_end rfl ?_ | refine n_end rfl ?_ | ((with_reducible refine c_grd ?_); (fail_if_success (refine c_lit true rfl rfl rfl ?_)); (fail_if_success (refine c_lit false rfl rfl rfl ?_)); refine c_split rfl rfl (fun _ => ?_) (fun _ => ?_)))
        have hB : List.drop (Int.toNat 0) (List.take ((s.length : Int) - 1).toNat s) = s.take (s.length - 1) := by
          rw [show ((s.length : Int) - 1).toNat = s.length - 1 by omega]
          rfl
        exact ⟨s.take (s.length - 1), ⟨hA.trans hI, by rw [List.length_take]; omega⟩, by rw [List.length_take]; omega, ⟨congrArg D.s hB, trivial⟩, trivial, rfl, fun q hq => by rw [hX] at hq; simp at hq⟩
      | false =>
        rw [hc] at c1
        rw [show ((s.length - 1 : Nat) : Int) = (s.length : Int) - 1 by omega] at c1
        have hA := hA.2 hc
        clear hc
        rw [← hI, hA]
        repeat' (first
          | refine r_gcall (f := 70) rfl rfl rfl rfl Tryd.call70 rfl c1 ?_
          | with_reducible (first | refine t_seq ?_ | refine t_region ?_ | refine c_nil ?_ | refine n_then ?_ | refine t_ret ?_ | refine t_skip ?_ | refine t_exit ?_ | refine t_block ?_ | refine n_block ?_ | refine e_then ?_ | refine x_then ?_ | refine x_block ?_ | refine t_draw ?_)
          | refine r_val rfl rfl True.intro ?_ | refine r_gskip rfl rfl rfl ?_ | refine r_gskip2 rfl rfl rfl ?_ | refine r_gval rfl rfl rfl rfl True.intro ?_
          | refine t_true rfl ?_ | refine t_false rfl ?_
          | ((first | refine t_cond_d rfl ?_ ?_ | refine t_cond_i rfl ?_ ?_ | refine t_cond_j rfl ?_ ?_ | refine t_cond_s rfl ?_ ?_ | refine t_cond_n rfl ?_ ?_ | refine t_cond rfl ?_ ?_ | refine c_split_d rfl rfl ?_ ?_ | refine c_split_i rfl rfl ?_ ?_ | refine c_split_j rfl rfl ?_ ?_ | refine c_split_s rfl rfl ?_ ?_ | refine c_split_n rfl rfl ?_ ?_) <;> intro <;> try (first | (rename_i hz; exact Bool.noConfusion (show true = false from hz)) | (rename_i hz; exact Bool.noConfusion (show false = true from hz)) | (exfalso; omega)))
          | ((first | refine r_val rfl rfl ?_ ?_ | refine r_gval rfl rfl rfl rfl ?_ ?_ | refine r_obj rfl rfl ?_ ?_ | refine r_sto rfl ?_ ?_ | refine r_gobj rfl rfl rfl rfl ?_ ?_); focus (first | omega | exact Nat.le_of_ble_eq_true rfl | (simp only [wrap_u8, IntKind.wrap_i64, IntKind.wrap_i32, wrap_u32', wrap_u64', InI]; (repeat' refine And.intro ?_ ?_) <;> omega) | ((repeat' refine And.intro ?_ ?_) <;> first | omega | rfl | exact Nat.le_refl _ | exact Nat.le_of_ble_eq_true rfl | exact bytesF_one _) | (simp_all; done) | (simp_all; omega)))
          | refine e_hit rfl ?_ | refine e_miss rfl ?_
          | with_reducible refine ⟨by kernel_rfl, ?_⟩ | refine x_end rfl ?_ | refine n_end rfl ?_ | ((with_reducible refine c_grd ?_); (fail_if_success (refine c_lit true rfl rfl rfl ?_)); (fail_if_success (refine c_lit false rfl rfl rfl ?_)); refine c_split rfl rfl (fun _ => ?_) (fun _ => ?_)))
        all_goals rfl
    · have : s = [] := List.length_eq_zero_iff.1 (by omega)
      subst this
      rw [← hI]
      repeat' (first
        | with_reducible (first | refine t_seq ?_ | refine t_region ?_ | refine c_nil ?_ | refine n_then ?_ | refine t_ret ?_ | refine t_skip ?_ | refine t_exit ?_ | refine t_block ?_ | refine n_block ?_ | refine e_then ?_ | refine x_then ?_ | refine x_block ?_ | refine t_draw ?_)
        | refine r_val rfl rfl True.intro ?_ | refine r_gskip rfl rfl rfl ?_ | refine r_gskip2 rfl rfl rfl ?_ | refine r_gval rfl rfl rfl rfl True.intro ?_
        | refine t_true rfl ?_ | refine t_false rfl ?_
        | ((first | refine t_cond_d rfl ?_ ?_ | refine t_cond_i rfl ?_ ?_ | refine t_cond_j rfl ?_ ?_ | refine t_cond_s rfl ?_ ?_ | refine t_cond_n rfl ?_ ?_ | refine t_cond rfl ?_ ?_ | refine c_split_d rfl rfl ?_ ?_ | refine c_split_i rfl rfl ?_ ?_ | refine c_split_j rfl rfl ?_ ?_ | refine c_split_s rfl rfl ?_ ?_ | refine c_split_n rfl rfl ?_ ?_) <;> intro <;> try (first | (rename_i hz; exact Bool.noConfusion (show true = false from hz)) | (rename_i hz; exact Bool.noConfusion (show false = true from hz)) | (exfalso; omega)))
        | ((first | refine r_val rfl rfl ?_ ?_ | refine r_gval rfl rfl rfl rfl ?_ ?_ | refine r_obj rfl rfl ?_ ?_ | refine r_sto rfl ?_ ?_ | refine r_gobj rfl rfl rfl rfl ?_ ?_); focus (first | omega | exact Nat.le_of_ble_eq_true rfl | (simp only [wrap_u8, IntKind.wrap_i64, IntKind.wrap_i32, wrap_u32', wrap_u64', InI]; (repeat' refine And.intro ?_ ?_) <;> omega) | ((repeat' refine And.intro ?_ ?_) <;> first | omega | rfl | exact Nat.le_refl _ | exact Nat.le_of_ble_eq_true rfl | exact bytesF_one _) | (simp_all; done) | (simp_all; omega)))
        | refine e_hit rfl ?_ | refine e_miss rfl ?_
        | with_reducible refine ⟨by kernel_rfl, ?_⟩ | refine x_end rfl ?_ | refine n_end rfl ?_ | ((with_reducible refine c_grd ?_); (fail_if_success (refine c_lit true rfl rfl rfl ?_)); (fail_if_success (refine c_lit false rfl rfl rfl ?_)); refine c_split rfl rfl (fun _ => ?_) (fun _ => ?_)))
      all_goals rfl
  · skip
    repeat' (first
      | with_reducible (first | refine t_seq ?_ | refine t_region ?_ | refine c_nil ?_ | refine n_then ?_ | refine t_ret ?_ | refine t_skip ?_ | refine t_exit ?_ | refine t_block ?_ | refine n_block ?_ | refine e_then ?_ | refine x_then ?_ | refine x_block ?_ | refine t_draw ?_)
      | refine r_val rfl rfl True.intro ?_ | refine r_gskip rfl rfl rfl ?_ | refine r_gskip2 rfl rfl rfl ?_ | refine r_gval rfl rfl rfl rfl True.intro ?_
      | refine t_true rfl ?_ | refine t_false rfl ?_
      | ((first | refine t_cond_d rfl ?_ ?_ | refine t_cond_i rfl ?_ ?_ | refine t_cond_j rfl ?_ ?_ | refine t_cond_s rfl ?_ ?_ | refine t_cond_n rfl ?_ ?_ | refine t_cond rfl ?_ ?_ | refine c_split_d rfl rfl ?_ ?_ | refine c_split_i rfl rfl ?_ ?_ | refine c_split_j rfl rfl ?_ ?_ | refine c_split_s rfl rfl ?_ ?_ | refine c_split_n rfl rfl ?_ ?_) <;> intro <;> try (first | (rename_i hz; exact Bool.noConfusion (show true = false from hz)) | (rename_i hz; exact Bool.noConfusion (show false = true from hz)) | (exfalso; omega)))
      | ((first | refine r_val rfl rfl ?_ ?_ | refine r_gval rfl rfl rfl rfl ?_ ?_ | refine r_obj rfl rfl ?_ ?_ | refine r_sto rfl ?_ ?_ | refine r_gobj rfl rfl rfl rfl ?_ ?_); focus (first | omega | exact Nat.le_of_ble_eq_true rfl | (simp only [wrap_u8, IntKind.wrap_i64, IntKind.wrap_i32, wrap_u32', wrap_u64', InI]; (repeat' refine And.intro ?_ ?_) <;> omega) | ((repeat' refine And.intro ?_ ?_) <;> first | omega | rfl | exact Nat.le_refl _ | exact Nat.le_of_ble_eq_true rfl | exact bytesF_one _) | (simp_all; done) | (simp_all; omega)))
      | refine e_hit rfl ?_ | refine e_miss rfl ?_
      | with_reducible refine ⟨by kernel_rfl, ?_⟩ | ((with_reducible refine c_grd ?_); (fail_if_success (refine c_lit true rfl rfl rfl ?_)); (fail_if_success (refine c_lit false rfl rfl rfl ?_)); refine c_split rfl rfl (fun _ => ?_) (fun _ => ?_)))
    refine T.loop hL (fun s : List UInt8 => [(0, .s s)]) (fun _ => []) (fun s => Lib.trimLeftS s bl = Lib.trimLeftS s0 bl ∧ s.length ≤ s0.length) (fun s => s.length) s0 ⟨rfl, Nat.le_refl _⟩
      ⟨⟨rfl, trivial⟩, trivial, rfl, fun q hq => by rw [hX] at hq; simp at hq⟩ ?_
    rintro s ⟨hI, hl⟩
    by_cases hp : 0 < s.length
    · have c1 := blank_ctr (at' s 0)
      have hA := trimL_at hp
      cases hc : blB (at' s 0) with
      | true =>
        rw [hc] at c1
        have hA := hA.1 hc
        clear hc
        repeat' (first
          | refine r_gcall (f := 70) rfl rfl rfl rfl Tryd.call70 rfl c1 ?_
          | with_reducible (first | refine t_seq ?_ | refine t_region ?_ | refine c_nil ?_ | refine n_then ?_ | refine t_ret ?_ | refine t_skip ?_ | refine t_exit ?_ | refine t_block ?_ | refine n_block ?_ | refine e_then ?_ | refine x_then ?_ | refine x_block ?_ | refine t_draw ?_)
          | refine r_val rfl rfl True.intro ?_ | refine r_gskip rfl rfl rfl ?_ | refine r_gskip2 rfl rfl rfl ?_ | refine r_gval rfl rfl rfl rfl True.intro ?_
          | refine t_true rfl ?_ | refine t_false rfl ?_
          | ((first | refine t_cond_d rfl ?_ ?_ | refine t_cond_i rfl ?_ ?_ | refine t_cond_j rfl ?_ ?_ | refine t_cond_s rfl ?_ ?_ | refine t_cond_n rfl ?_ ?_ | refine t_cond rfl ?_ ?_ | refine c_split_d rfl rfl ?_ ?_ | refine c_split_i rfl rfl ?_ ?_ | refine c_split_j rfl rfl ?_ ?_ | refine c_split_s rfl rfl ?_ ?_ | refine c_split_n rfl rfl ?_ ?_) <;> intro <;> try (first | (rename_i hz; exact Bool.noConfusion (show true = false from hz)) | (rename_i hz; exact Bool.noConfusion (show false = true from hz)) | (exfalso; omega)))
          | ((first | refine r_val rfl rfl ?_ ?_ | refine r_gval rfl rfl rfl rfl ?_ ?_ | refine r_obj rfl rfl ?_ ?_ | refine r_sto rfl ?_ ?_ | refine r_gobj rfl rfl rfl rfl ?_ ?_); focus (first | omega | exact Nat.le_of_ble_eq_true rfl | (simp only [wrap_u8, IntKind.wrap_i64, IntKind.wrap_i32, wrap_u32', wrap_u64', InI]; (repeat' refine And.intro ?_ ?_) <;> omega) | ((repeat' refine And.intro ?_ ?_) <;> first | omega | rfl | exact Nat.le_refl _ | exact Nat.le_of_ble_eq_true rfl | exact bytesF_one _) | (simp_all; done) | (simp_all; omega)))
          | refine e_hit rfl ?_ | refine e_miss rfl ?_
          | with_reducible refine ⟨by kernel_rfl, ?_⟩ | refine x_end rfl ?_ | refine n_end rfl ?_ | ((with_reducible refine c_grd ?_); (fail_if_success (refine c_lit true rfl rfl rfl ?_)); (fail_if_success (refine c_lit false rfl rfl rfl ?_)); refine c_split rfl rfl (fun _ => ?_) (fun _ => ?_)))
        have hB : List.drop (Int.toNat 1) (List.take (s.length : Int).toNat s) = s.drop 1 := by
          rw [Int.toNat_natCast, List.take_length]
          rfl
        exact ⟨s.drop 1, ⟨hA.trans hI, by rw [List.length_drop]; omega⟩, by rw [List.length_drop]; omega, ⟨congrArg D.s hB, trivial⟩, trivial, rfl, fun q hq => by rw [hX] at hq; simp at hq⟩
      | false =>
        rw [hc] at c1
        have hA := hA.2 hc
        clear hc
        repeat' (first
          | refine r_gcall (f := 70) rfl rfl rfl rfl Tryd.call70 rfl c1 ?_
          | with_reducible (first | refine t_seq ?_ | refine t_region ?_ | refine c_nil ?_ | refine n_then ?_ | refine t_ret ?_ | refine t_skip ?_ | refine t_exit ?_ | refine t_block ?_ | refine n_block ?_ | refine e_then ?_ | refine x_then ?_ | refine x_block ?_ | refine t_draw ?_)
          | refine r_val rfl rfl True.intro ?_ | refine r_gskip rfl rfl rfl ?_ | refine r_gskip2 rfl rfl rfl ?_ | refine r_gval rfl rfl rfl rfl True.intro ?_
          | refine t_true rfl ?_ | refine t_false rfl ?_
          | ((first | refine t_cond_d rfl ?_ ?_ | refine t_cond_i rfl ?_ ?_ | refine t_cond_j rfl ?_ ?_ | refine t_cond_s rfl ?_ ?_ | refine t_cond_n rfl ?_ ?_ | refine t_cond rfl ?_ ?_ | refine c_split_d rfl rfl ?_ ?_ | refine c_split_i rfl rfl ?_ ?_ | refine c_split_j rfl rfl ?_ ?_ | refine c_split_s rfl rfl ?_ ?_ | refine c_split_n rfl rfl ?_ ?_) <;> intro <;> try (first | (rename_i hz; exact Bool.noConfusion (show true = false from hz)) | (rename_i hz; exact Bool.noConfusion (show false = true from hz)) | (exfalso; omega)))
          | ((first | refine r_val rfl rfl ?_ ?_ | refine r_gval rfl rfl rfl rfl ?_ ?_ | refine r_obj rfl rfl ?_ ?_ | refine r_sto rfl ?_ ?_ | refine r_gobj rfl rfl rfl rfl ?_ ?_); focus (first | omega | exact Nat.le_of_ble_eq_true rfl | (simp only [wrap_u8, IntKind.wrap_i64, IntKind.wrap_i32, wrap_u32', wrap_u64', InI]; (repeat' refine And.intro ?_ ?_) <;> omega) | ((repeat' refine And.intro ?_ ?_) <;> first | omega | rfl | exact Nat.le_refl _ | exact Nat.le_of_ble_eq_true rfl | exact bytesF_one _) | (simp_all; done) | (simp_all; omega)))
          | refine e_hit rfl ?_ | refine e_miss rfl ?_
          | with_reducible refine ⟨by kernel_rfl, ?_⟩ | refine x_end rfl ?_ | refine n_end rfl ?_ | ((with_reducible refine c_grd ?_); (fail_if_success (refine c_lit true rfl rfl rfl ?_)); (fail_if_success (refine c_lit false rfl rfl rfl ?_)); refine c_split rfl rfl (fun _ => ?_) (fun _ => ?_)))
        all_goals exact ⟨(), trivial, ⟨congrArg D.s (hA.symm.trans hI), trivial⟩, trivial, rfl, fun q hq => by rw [hX] at hq; simp at hq⟩
    · have : s = [] := List.length_eq_zero_iff.1 (by omega)
      subst this
      repeat' (first
        | with_reducible (first | refine t_seq ?_ | refine t_region ?_ | refine c_nil ?_ | refine n_then ?_ | refine t_ret ?_ | refine t_skip ?_ | refine t_exit ?_ | refine t_block ?_ | refine n_block ?_ | refine e_then ?_ | refine x_then ?_ | refine x_block ?_ | refine t_draw ?_)
        | refine r_val rfl rfl True.intro ?_ | refine r_gskip rfl rfl rfl ?_ | refine r_gskip2 rfl rfl rfl ?_ | refine r_gval rfl rfl rfl rfl True.intro ?_
        | refine t_true rfl ?_ | refine t_false rfl ?_
        | ((first | refine t_cond_d rfl ?_ ?_ | refine t_cond_i rfl ?_ ?_ | refine t_cond_j rfl ?_ ?_ | refine t_cond_s rfl ?_ ?_ | refine t_cond_n rfl ?_ ?_ | refine t_cond rfl ?_ ?_ | refine c_split_d rfl rfl ?_ ?_ | refine c_split_i rfl rfl ?_ ?_ | refine c_split_j rfl rfl ?_ ?_ | refine c_split_s rfl rfl ?_ ?_ | refine c_split_n rfl rfl ?_ ?_) <;> intro <;> try (first | (rename_i hz; exact Bool.noConfusion (show true = false from hz)) | (rename_i hz; exact Bool.noConfusion (show false = true from hz)) | (exfalso; omega)))
        | ((first | refine r_val rfl rfl ?_ ?_ | refine r_gval rfl rfl rfl rfl ?_ ?_ | refine r_obj rfl rfl ?_ ?_ | refine r_sto rfl ?_ ?_ | refine r_gobj rfl rfl rfl rfl ?_ ?_); focus (first | omega | exact Nat.le_of_ble_eq_true rfl | (simp only [wrap_u8, IntKind.wrap_i64, IntKind.wrap_i32, wrap_u32', wrap_u64', InI]; (repeat' refine And.intro ?_ ?_) <;> omega) | ((repeat' refine And.intro ?_ ?_) <;> first | omega | rfl | exact Nat.le_refl _ | exact Nat.le_of_ble_eq_true rfl | exact bytesF_one _) | (simp_all; done) | (simp_all; omega)))
        | refine e_hit rfl ?_ | refine e_miss rfl ?_
        | with_reducible refine ⟨by kernel_rfl, ?_⟩ | refine x_end rfl ?_ | refine n_end rfl ?_ | ((with_reducible refine c_grd ?_); (fail_if_success (refine c_lit true rfl rfl rfl ?_)); (fail_if_success (refine c_lit false rfl rfl rfl ?_)); refine c_split rfl rfl (fun _ => ?_) (fun _ => ?_)))
      all_goals exact ⟨(), trivial, ⟨congrArg D.s hI, trivial⟩, trivial, rfl, fun q hq => by rw [hX] at hq; simp at hq⟩

/-! ### A byte's place -/
def fndN (c : UInt8) (s : List UInt8) : Nat := (s.takeWhile fun x => decide (x ≠ c)).length
theorem fndN_le (c : UInt8) (s : List UInt8) : fndN c s ≤ s.length := (List.takeWhile_sublist _).length_le
theorem dropD (s : List UInt8) (i e : Nat) : (s.drop i).getD e 0 = s.getD (i + e) 0 := by
  simp [List.getD_eq_getElem?_getD]
theorem byteN (c d : UInt8) : c = d ↔ (c.toNat : Int) = (d.toNat : Int) := by
  constructor
  · rintro rfl
    rfl
  · intro h
    exact UInt8.toNat.inj (by omega)

set_option maxRecDepth 100000 in
set_option maxHeartbeats 1000000 in
theorem find_ctr (s : List UInt8) (i : Nat) (c : UInt8) (hs : s.length ≤ 1000000) (hi : i ≤ s.length) : Ctr Tryd.prog 48 [.s s, .i .i64 i, .i .u8 c.toNat] (.i .i64 (i + fndN c (s.drop i) : Nat)) := by
  refine r_fun Tryd.func48 rfl Tryd.ntmps48 Tryd.results48 rfl rfl fun X hL hX => ?_
  repeat' (first
    | with_reducible (first | refine t_seq ?_ | refine t_region ?_ | refine c_nil ?_ | refine n_then ?_ | refine t_ret ?_ | refine t_skip ?_ | refine t_exit ?_ | refine t_block ?_ | refine n_block ?_ | refine e_then ?_ | refine x_then ?_ | refine x_block ?_ | refine t_draw ?_)
    | refine r_val rfl rfl True.intro ?_ | refine r_gskip rfl rfl rfl ?_ | refine r_gskip2 rfl rfl rfl ?_ | refine r_gval rfl rfl rfl rfl True.intro ?_
    | refine t_true rfl ?_ | refine t_false rfl ?_
    | ((first | refine t_cond_d rfl ?_ ?_ | refine t_cond_i rfl ?_ ?_ | refine t_cond_j rfl ?_ ?_ | refine t_cond_s rfl ?_ ?_ | refine t_cond_n rfl ?_ ?_ | refine t_cond rfl ?_ ?_ | refine c_split_d rfl rfl ?_ ?_ | refine c_split_i rfl rfl ?_ ?_ | refine c_split_j rfl rfl ?_ ?_ | refine c_split_s rfl rfl ?_ ?_ | refine c_split_n rfl rfl ?_ ?_) <;> intro <;> try (first | (rename_i hz; exact Bool.noConfusion (show true = false from hz)) | (rename_i hz; exact Bool.noConfusion (show false = true from hz)) | (exfalso; omega)))
    | ((first | refine r_val rfl rfl ?_ ?_ | refine r_gval rfl rfl rfl rfl ?_ ?_ | refine r_obj rfl rfl ?_ ?_ | refine r_sto rfl ?_ ?_ | refine r_gobj rfl rfl rfl rfl ?_ ?_); focus (first | omega | exact Nat.le_of_ble_eq_true rfl | (simp only [wrap_u8, IntKind.wrap_i64, IntKind.wrap_i32, wrap_u32', wrap_u64', InI]; (repeat' refine And.intro ?_ ?_) <;> omega) | ((repeat' refine And.intro ?_ ?_) <;> first | omega | rfl | exact Nat.le_refl _ | exact Nat.le_of_ble_eq_true rfl | exact bytesF_one _) | (simp_all; done) | (simp_all; omega)))
    | refine e_hit rfl ?_ | refine e_miss rfl ?_
    | with_reducible refine ⟨by kernel_rfl, ?_⟩ | ((with_reducible refine c_grd ?_); (fail_if_success (refine c_lit true rfl rfl rfl ?_)); (fail_if_success (refine c_lit false rfl rfl rfl ?_)); refine c_split rfl rfl (fun _ => ?_) (fun _ => ?_)))
  refine T.loop hL (fun j : Nat => [(0, .s s), (1, .i .i64 (i + j : Nat)), (2, .i .u8 c.toNat)]) (fun _ => []) (fun j => i + j ≤ s.length ∧ j ≤ fndN c (s.drop i)) (fun j => s.length - j) 0 ⟨hi, Nat.zero_le _⟩
    ⟨⟨rfl, rfl, rfl, trivial⟩, trivial, rfl, fun q hq => by rw [hX] at hq; simp at hq⟩ ?_
  rintro j ⟨hj, hk⟩
  by_cases hp : i + j < s.length
  · have ha := atN s (i + j)
    by_cases hc : s.getD (i + j) 0 = c
    · have hst : fndN c (s.drop i) = j := take_stop hk (.inr (by rw [dropD, hc]; simp))
      have hcc := (byteN _ _).1 hc
      rw [← ha] at hcc
      rw [hst]
      clear ha
      repeat' (first
        | with_reducible (first | refine t_seq ?_ | refine t_region ?_ | refine c_nil ?_ | refine n_then ?_ | refine t_ret ?_ | refine t_skip ?_ | refine t_exit ?_ | refine t_block ?_ | refine n_block ?_ | refine e_then ?_ | refine x_then ?_ | refine x_block ?_ | refine t_draw ?_)
        | refine r_val rfl rfl True.intro ?_ | refine r_gskip rfl rfl rfl ?_ | refine r_gskip2 rfl rfl rfl ?_ | refine r_gval rfl rfl rfl rfl True.intro ?_
        | refine t_true rfl ?_ | refine t_false rfl ?_
        | ((first | refine t_cond_d rfl ?_ ?_ | refine t_cond_i rfl ?_ ?_ | refine t_cond_j rfl ?_ ?_ | refine t_cond_s rfl ?_ ?_ | refine t_cond_n rfl ?_ ?_ | refine t_cond rfl ?_ ?_ | refine c_split_d rfl rfl ?_ ?_ | refine c_split_i rfl rfl ?_ ?_ | refine c_split_j rfl rfl ?_ ?_ | refine c_split_s rfl rfl ?_ ?_ | refine c_split_n rfl rfl ?_ ?_) <;> intro <;> try (first | (rename_i hz; exact Bool.noConfusion (show true = false from hz)) | (rename_i hz; exact Bool.noConfusion (show false = true from hz)) | (exfalso; omega)))
        | ((first | refine r_val rfl rfl ?_ ?_ | refine r_gval rfl rfl rfl rfl ?_ ?_ | refine r_obj rfl rfl ?_ ?_ | refine r_sto rfl ?_ ?_ | refine r_gobj rfl rfl rfl rfl ?_ ?_); focus (first | omega | exact Nat.le_of_ble_eq_true rfl | (simp only [wrap_u8, IntKind.wrap_i64, IntKind.wrap_i32, wrap_u32', wrap_u64', InI]; (repeat' refine And.intro ?_ ?_) <;> omega) | ((repeat' refine And.intro ?_ ?_) <;> first | omega | rfl | exact Nat.le_refl _ | exact Nat.le_of_ble_eq_true rfl | exact bytesF_one _) | (simp_all; done) | (simp_all; omega)))
        | refine e_hit rfl ?_ | refine e_miss rfl ?_
        | with_reducible refine ⟨by kernel_rfl, ?_⟩ | refine x_end rfl ?_ | refine n_end rfl ?_ | ((with_reducible refine c_grd ?_); (fail_if_success (refine c_lit true rfl rfl rfl ?_)); (fail_if_success (refine c_lit false rfl rfl rfl ?_)); refine c_split rfl rfl (fun _ => ?_) (fun _ => ?_)))
      all_goals rfl
    · have hst : j + 1 ≤ fndN c (s.drop i) := take_more hk (by rw [List.length_drop]; omega) (by rw [dropD]; simpa using hc)
      have hcc : ¬ at' s ((i + j : Nat) : Int) = (c.toNat : Int) := fun e => hc ((byteN _ _).2 (by rw [← ha]; exact e))
      clear ha
      repeat' (first
        | with_reducible (first | refine t_seq ?_ | refine t_region ?_ | refine c_nil ?_ | refine n_then ?_ | refine t_ret ?_ | refine t_skip ?_ | refine t_exit ?_ | refine t_block ?_ | refine n_block ?_ | refine e_then ?_ | refine x_then ?_ | refine x_block ?_ | refine t_draw ?_)
        | refine r_val rfl rfl True.intro ?_ | refine r_gskip rfl rfl rfl ?_ | refine r_gskip2 rfl rfl rfl ?_ | refine r_gval rfl rfl rfl rfl True.intro ?_
        | refine t_true rfl ?_ | refine t_false rfl ?_
        | ((first | refine t_cond_d rfl ?_ ?_ | refine t_cond_i rfl ?_ ?_ | refine t_cond_j rfl ?_ ?_ | refine t_cond_s rfl ?_ ?_ | refine t_cond_n rfl ?_ ?_ | refine t_cond rfl ?_ ?_ | refine c_split_d rfl rfl ?_ ?_ | refine c_split_i rfl rfl ?_ ?_ | refine c_split_j rfl rfl ?_ ?_ | refine c_split_s rfl rfl ?_ ?_ | refine c_split_n rfl rfl ?_ ?_) <;> intro <;> try (first | (rename_i hz; exact Bool.noConfusion (show true = false from hz)) | (rename_i hz; exact Bool.noConfusion (show false = true from hz)) | (exfalso; omega)))
        | ((first | refine r_val rfl rfl ?_ ?_ | refine r_gval rfl rfl rfl rfl ?_ ?_ | refine r_obj rfl rfl ?_ ?_ | refine r_sto rfl ?_ ?_ | refine r_gobj rfl rfl rfl rfl ?_ ?_); focus (first | omega | exact Nat.le_of_ble_eq_true rfl | (simp only [wrap_u8, IntKind.wrap_i64, IntKind.wrap_i32, wrap_u32', wrap_u64', InI]; (repeat' refine And.intro ?_ ?_) <;> omega) | ((repeat' refine And.intro ?_ ?_) <;> first | omega | rfl | exact Nat.le_refl _ | exact Nat.le_of_ble_eq_true rfl | exact bytesF_one _) | (simp_all; done) | (simp_all; omega)))
        | refine e_hit rfl ?_ | refine e_miss rfl ?_
        | with_reducible refine ⟨by kernel_rfl, ?_⟩ | refine x_end rfl ?_ | refine n_end rfl ?_ | ((with_reducible refine c_grd ?_); (fail_if_success (refine c_lit true rfl rfl rfl ?_)); (fail_if_success (refine c_lit false rfl rfl rfl ?_)); refine c_split rfl rfl (fun _ => ?_) (fun _ => ?_)))
      all_goals exact ⟨j + 1, ⟨by omega, hst⟩, by omega, ⟨rfl, congrArg (D.i .i64) (by omega), rfl, trivial⟩, trivial, rfl, fun q hq => by rw [hX] at hq; simp at hq⟩
  · have hst : fndN c (s.drop i) = j := take_stop hk (.inl (by rw [List.length_drop]; omega))
    rw [hst]
    repeat' (first
      | with_reducible (first | refine t_seq ?_ | refine t_region ?_ | refine c_nil ?_ | refine n_then ?_ | refine t_ret ?_ | refine t_skip ?_ | refine t_exit ?_ | refine t_block ?_ | refine n_block ?_ | refine e_then ?_ | refine x_then ?_ | refine x_block ?_ | refine t_draw ?_)
      | refine r_val rfl rfl True.intro ?_ | refine r_gskip rfl rfl rfl ?_ | refine r_gskip2 rfl rfl rfl ?_ | refine r_gval rfl rfl rfl rfl True.intro ?_
      | refine t_true rfl ?_ | refine t_false rfl ?_
      | ((first | refine t_cond_d rfl ?_ ?_ | refine t_cond_i rfl ?_ ?_ | refine t_cond_j rfl ?_ ?_ | refine t_cond_s rfl ?_ ?_ | refine t_cond_n rfl ?_ ?_ | refine t_cond rfl ?_ ?_ | refine c_split_d rfl rfl ?_ ?_ | refine c_split_i rfl rfl ?_ ?_ | refine c_split_j rfl rfl ?_ ?_ | refine c_split_s rfl rfl ?_ ?_ | refine c_split_n rfl rfl ?_ ?_) <;> intro <;> try (first | (rename_i hz; exact Bool.noConfusion (show true = false from hz)) | (rename_i hz; exact Bool.noConfusion (show false = true from hz)) | (exfalso; omega)))
      | ((first | refine r_val rfl rfl ?_ ?_ | refine r_gval rfl rfl rfl rfl ?_ ?_ | refine r_obj rfl rfl ?_ ?_ | refine r_sto rfl ?_ ?_ | refine r_gobj rfl rfl rfl rfl ?_ ?_); focus (first | omega | exact Nat.le_of_ble_eq_true rfl | (simp only [wrap_u8, IntKind.wrap_i64, IntKind.wrap_i32, wrap_u32', wrap_u64', InI]; (repeat' refine And.intro ?_ ?_) <;> omega) | ((repeat' refine And.intro ?_ ?_) <;> first | omega | rfl | exact Nat.le_refl _ | exact Nat.le_of_ble_eq_true rfl | exact bytesF_one _) | (simp_all; done) | (simp_all; omega)))
      | refine e_hit rfl ?_ | refine e_miss rfl ?_
      | with_reducible refine ⟨by kernel_rfl, ?_⟩ | refine x_end rfl ?_ | refine n_end rfl ?_ | ((with_reducible refine c_grd ?_); (fail_if_success (refine c_lit true rfl rfl rfl ?_)); (fail_if_success (refine c_lit false rfl rfl rfl ?_)); refine c_split rfl rfl (fun _ => ?_) (fun _ => ?_)))
    all_goals rfl

/-! ### Small letters -/
def abc : List UInt8 := [97, 98, 99, 100, 101, 102, 103, 104, 105, 106, 107, 108, 109, 110, 111, 112, 113, 114, 115, 116, 117, 118, 119, 120, 121, 122]
theorem abc_at : ∀ n : Fin 26, (abc.take (n.1 + 1)).drop n.1 = [UInt8.ofNat (lowI (n.1 + 65 : Nat)).toNat] := by decide
theorem small_succ {s : List UInt8} {i : Nat} (h : i < s.length) : smallL (s.take (i + 1)) = smallL (s.take i) ++ [UInt8.ofNat (lowI (at' s i)).toNat] := by
  unfold smallL
  rw [List.take_add_one, List.map_append]
  congr 1
  have : s[i]? = some (s.getD i 0) := by simp [List.getD_eq_getElem?_getD, h]
  rw [this, atN]
  rfl
theorem one_at {s : List UInt8} {i : Nat} (h : i < s.length) : (s.take (i + 1)).drop i = [s.getD i 0] := by
  rw [List.take_add_one, List.drop_append_of_le_length (by rw [List.length_take]; omega), List.drop_eq_nil_of_le (by rw [List.length_take]; omega)]
  simp [List.getD_eq_getElem?_getD, h]

set_option maxRecDepth 100000 in
set_option maxHeartbeats 1000000 in
theorem rsmall_ctr (s : List UInt8) (hs : s.length ≤ 1000000) : Ctr Tryd.prog 22 [.s s] (.s (smallL s)) := by
  refine r_fun Tryd.func22 rfl Tryd.ntmps22 Tryd.results22 rfl rfl fun X hL hX => ?_
  repeat' (first
    | with_reducible (first | refine t_seq ?_ | refine t_region ?_ | refine c_nil ?_ | refine n_then ?_ | refine t_ret ?_ | refine t_skip ?_ | refine t_exit ?_ | refine t_block ?_ | refine n_block ?_ | refine e_then ?_ | refine x_then ?_ | refine x_block ?_ | refine t_draw ?_)
    | refine r_val rfl rfl True.intro ?_ | refine r_gskip rfl rfl rfl ?_ | refine r_gskip2 rfl rfl rfl ?_ | refine r_gval rfl rfl rfl rfl True.intro ?_
    | refine t_true rfl ?_ | refine t_false rfl ?_
    | ((first | refine t_cond_d rfl ?_ ?_ | refine t_cond_i rfl ?_ ?_ | refine t_cond_j rfl ?_ ?_ | refine t_cond_s rfl ?_ ?_ | refine t_cond_n rfl ?_ ?_ | refine t_cond rfl ?_ ?_ | refine c_split_d rfl rfl ?_ ?_ | refine c_split_i rfl rfl ?_ ?_ | refine c_split_j rfl rfl ?_ ?_ | refine c_split_s rfl rfl ?_ ?_ | refine c_split_n rfl rfl ?_ ?_) <;> intro <;> try (first | (rename_i hz; exact Bool.noConfusion (show true = false from hz)) | (rename_i hz; exact Bool.noConfusion (show false = true from hz)) | (exfalso; omega)))
    | ((first | refine r_val rfl rfl ?_ ?_ | refine r_gval rfl rfl rfl rfl ?_ ?_ | refine r_obj rfl rfl ?_ ?_ | refine r_sto rfl ?_ ?_ | refine r_gobj rfl rfl rfl rfl ?_ ?_); focus (first | omega | exact Nat.le_of_ble_eq_true rfl | (simp only [wrap_u8, IntKind.wrap_i64, IntKind.wrap_i32, wrap_u32', wrap_u64', InI]; (repeat' refine And.intro ?_ ?_) <;> omega) | ((repeat' refine And.intro ?_ ?_) <;> first | omega | rfl | exact Nat.le_refl _ | exact Nat.le_of_ble_eq_true rfl | exact bytesF_one _) | (simp_all; done) | (simp_all; omega)))
    | refine e_hit rfl ?_ | refine e_miss rfl ?_
    | with_reducible refine ⟨by kernel_rfl, ?_⟩ | ((with_reducible refine c_grd ?_); (fail_if_success (refine c_lit true rfl rfl rfl ?_)); (fail_if_success (refine c_lit false rfl rfl rfl ?_)); refine c_split rfl rfl (fun _ => ?_) (fun _ => ?_)))
  refine T.loop hL (fun i : Nat => [(0, .s s), (3, .s (smallL (s.take i))), (4, .i .i64 i)]) (fun _ => []) (fun i => i ≤ s.length) (fun i => s.length - i) 0 (Nat.zero_le _)
    ⟨⟨rfl, rfl, rfl, trivial⟩, trivial, rfl, fun q hq => by rw [hX] at hq; simp at hq⟩ ?_
  rintro i hi
  have hsl : (smallL (s.take i)).length ≤ i := by
    unfold smallL
    rw [List.length_map, List.length_take]
    omega
  by_cases hp : i < s.length
  · have hsu := small_succ hp
    have ha := at_range s i
    have hone := one_at hp
    have hat := atN s i
    have hw : IntKind.i64.wrap (at' s i) = at' s i := by rw [IntKind.wrap_i64]; omega
    have e1 : ((i : Int) + 1).toNat = i + 1 := rfl
    have e2 : (i : Int).toNat = i := rfl
    by_cases hc : 65 ≤ at' s i ∧ at' s i ≤ 90
    · obtain ⟨n, hn⟩ : ∃ n : Nat, at' s i = (n + 65 : Nat) ∧ n < 26 := ⟨(at' s i - 65).toNat, by omega, by omega⟩
      have habc := abc_at ⟨n, hn.2⟩
      dsimp only at habc
      have hn1 := hn.1
      clear hat
      repeat' (first
        | with_reducible (first | refine t_seq ?_ | refine t_region ?_ | refine c_nil ?_ | refine n_then ?_ | refine t_ret ?_ | refine t_skip ?_ | refine t_exit ?_ | refine t_block ?_ | refine n_block ?_ | refine e_then ?_ | refine x_then ?_ | refine x_block ?_ | refine t_draw ?_)
        | refine r_val rfl rfl True.intro ?_ | refine r_gskip rfl rfl rfl ?_ | refine r_gskip2 rfl rfl rfl ?_ | refine r_gval rfl rfl rfl rfl True.intro ?_
        | refine t_true rfl ?_ | refine t_false rfl ?_
        | ((first | refine t_cond_d rfl ?_ ?_ | refine t_cond_i rfl ?_ ?_ | refine t_cond_j rfl ?_ ?_ | refine t_cond_s rfl ?_ ?_ | refine t_cond_n rfl ?_ ?_ | refine t_cond rfl ?_ ?_ | refine c_split_d rfl rfl ?_ ?_ | refine c_split_i rfl rfl ?_ ?_ | refine c_split_j rfl rfl ?_ ?_ | refine c_split_s rfl rfl ?_ ?_ | refine c_split_n rfl rfl ?_ ?_) <;> intro <;> try (first | (rename_i hz; exact Bool.noConfusion (show true = false from hz)) | (rename_i hz; exact Bool.noConfusion (show false = true from hz)) | (exfalso; omega)))
        | ((first | refine r_val rfl rfl ?_ ?_ | refine r_gval rfl rfl rfl rfl ?_ ?_ | refine r_obj rfl rfl ?_ ?_ | refine r_sto rfl ?_ ?_ | refine r_gobj rfl rfl rfl rfl ?_ ?_); focus (first | omega | exact Nat.le_of_ble_eq_true rfl | (simp only [wrap_u8, IntKind.wrap_i64, IntKind.wrap_i32, wrap_u32', wrap_u64', InI]; (repeat' refine And.intro ?_ ?_) <;> omega) | ((repeat' refine And.intro ?_ ?_) <;> first | omega | rfl | exact Nat.le_refl _ | exact Nat.le_of_ble_eq_true rfl | exact bytesF_one _) | (simp_all; done) | (simp_all; omega)))
        | refine e_hit rfl ?_ | refine e_miss rfl ?_
        | with_reducible refine ⟨by kernel_rfl, ?_⟩ | refine x_end rfl ?_ | refine n_end rfl ?_ | ((with_reducible refine c_grd ?_); (fail_if_success (refine c_lit true rfl rfl rfl ?_)); (fail_if_success (refine c_lit false rfl rfl rfl ?_)); refine c_split rfl rfl (fun _ => ?_) (fun _ => ?_)))
      all_goals exact ⟨i + 1, by omega, by omega, ⟨rfl, (by
        show D.s (smallL (s.take i) ++ List.drop (IntKind.i64.wrap (at' s i) - 65).toNat (List.take (IntKind.i64.wrap (at' s i) - 65 + 1).toNat abc)) = D.s (smallL (s.take (i + 1)))
        rw [hsu, hw, hn1, ← habc, show (((n + 65 : Nat) : Int) - 65).toNat = n by omega, show (((n + 65 : Nat) : Int) - 65 + 1).toNat = n + 1 by omega]), congrArg (D.i .i64) (by omega), trivial⟩, trivial, rfl, fun q hq => by rw [hX] at hq; simp at hq⟩
    · have hlow : lowI (at' s i) = at' s i := if_neg hc
      repeat' (first
        | with_reducible (first | refine t_seq ?_ | refine t_region ?_ | refine c_nil ?_ | refine n_then ?_ | refine t_ret ?_ | refine t_skip ?_ | refine t_exit ?_ | refine t_block ?_ | refine n_block ?_ | refine e_then ?_ | refine x_then ?_ | refine x_block ?_ | refine t_draw ?_)
        | refine r_val rfl rfl True.intro ?_ | refine r_gskip rfl rfl rfl ?_ | refine r_gskip2 rfl rfl rfl ?_ | refine r_gval rfl rfl rfl rfl True.intro ?_
        | refine t_true rfl ?_ | refine t_false rfl ?_
        | ((first | refine t_cond_d rfl ?_ ?_ | refine t_cond_i rfl ?_ ?_ | refine t_cond_j rfl ?_ ?_ | refine t_cond_s rfl ?_ ?_ | refine t_cond_n rfl ?_ ?_ | refine t_cond rfl ?_ ?_ | refine c_split_d rfl rfl ?_ ?_ | refine c_split_i rfl rfl ?_ ?_ | refine c_split_j rfl rfl ?_ ?_ | refine c_split_s rfl rfl ?_ ?_ | refine c_split_n rfl rfl ?_ ?_) <;> intro <;> try (first | (rename_i hz; exact Bool.noConfusion (show true = false from hz)) | (rename_i hz; exact Bool.noConfusion (show false = true from hz)) | (exfalso; omega)))
        | ((first | refine r_val rfl rfl ?_ ?_ | refine r_gval rfl rfl rfl rfl ?_ ?_ | refine r_obj rfl rfl ?_ ?_ | refine r_sto rfl ?_ ?_ | refine r_gobj rfl rfl rfl rfl ?_ ?_); focus (first | omega | exact Nat.le_of_ble_eq_true rfl | (simp only [wrap_u8, IntKind.wrap_i64, IntKind.wrap_i32, wrap_u32', wrap_u64', InI]; (repeat' refine And.intro ?_ ?_) <;> omega) | ((repeat' refine And.intro ?_ ?_) <;> first | omega | rfl | exact Nat.le_refl _ | exact Nat.le_of_ble_eq_true rfl | exact bytesF_one _) | (simp_all; done) | (simp_all; omega)))
        | refine e_hit rfl ?_ | refine e_miss rfl ?_
        | with_reducible refine ⟨by kernel_rfl, ?_⟩ | refine x_end rfl ?_ | refine n_end rfl ?_ | ((with_reducible refine c_grd ?_); (fail_if_success (refine c_lit true rfl rfl rfl ?_)); (fail_if_success (refine c_lit false rfl rfl rfl ?_)); refine c_split rfl rfl (fun _ => ?_) (fun _ => ?_)))
      all_goals exact ⟨i + 1, by omega, by omega, ⟨rfl, (by
        show D.s (smallL (s.take i) ++ List.drop (i : Int).toNat (List.take ((i : Int) + 1).toNat s)) = D.s (smallL (s.take (i + 1)))
        rw [hsu, hlow, hat, e1, e2, hone]
        simp), congrArg (D.i .i64) (by omega), trivial⟩, trivial, rfl, fun q hq => by rw [hX] at hq; simp at hq⟩
  · have : i = s.length := by omega
    subst this
    rw [List.take_length]
    repeat' (first
      | with_reducible (first | refine t_seq ?_ | refine t_region ?_ | refine c_nil ?_ | refine n_then ?_ | refine t_ret ?_ | refine t_skip ?_ | refine t_exit ?_ | refine t_block ?_ | refine n_block ?_ | refine e_then ?_ | refine x_then ?_ | refine x_block ?_ | refine t_draw ?_)
      | refine r_val rfl rfl True.intro ?_ | refine r_gskip rfl rfl rfl ?_ | refine r_gskip2 rfl rfl rfl ?_ | refine r_gval rfl rfl rfl rfl True.intro ?_
      | refine t_true rfl ?_ | refine t_false rfl ?_
      | ((first | refine t_cond_d rfl ?_ ?_ | refine t_cond_i rfl ?_ ?_ | refine t_cond_j rfl ?_ ?_ | refine t_cond_s rfl ?_ ?_ | refine t_cond_n rfl ?_ ?_ | refine t_cond rfl ?_ ?_ | refine c_split_d rfl rfl ?_ ?_ | refine c_split_i rfl rfl ?_ ?_ | refine c_split_j rfl rfl ?_ ?_ | refine c_split_s rfl rfl ?_ ?_ | refine c_split_n rfl rfl ?_ ?_) <;> intro <;> try (first | (rename_i hz; exact Bool.noConfusion (show true = false from hz)) | (rename_i hz; exact Bool.noConfusion (show false = true from hz)) | (exfalso; omega)))
      | ((first | refine r_val rfl rfl ?_ ?_ | refine r_gval rfl rfl rfl rfl ?_ ?_ | refine r_obj rfl rfl ?_ ?_ | refine r_sto rfl ?_ ?_ | refine r_gobj rfl rfl rfl rfl ?_ ?_); focus (first | omega | exact Nat.le_of_ble_eq_true rfl | (simp only [wrap_u8, IntKind.wrap_i64, IntKind.wrap_i32, wrap_u32', wrap_u64', InI]; (repeat' refine And.intro ?_ ?_) <;> omega) | ((repeat' refine And.intro ?_ ?_) <;> first | omega | rfl | exact Nat.le_refl _ | exact Nat.le_of_ble_eq_true rfl | exact bytesF_one _) | (simp_all; done) | (simp_all; omega)))
      | refine e_hit rfl ?_ | refine e_miss rfl ?_
      | with_reducible refine ⟨by kernel_rfl, ?_⟩ | refine x_end rfl ?_ | refine n_end rfl ?_ | ((with_reducible refine c_grd ?_); (fail_if_success (refine c_lit true rfl rfl rfl ?_)); (fail_if_success (refine c_lit false rfl rfl rfl ?_)); refine c_split rfl rfl (fun _ => ?_) (fun _ => ?_)))
    all_goals rfl

end Go.Proofs.YtghdgjabpdfaoaaDoor.Flow

/- REQ: pieces and places (plain). -/
namespace Go.Proofs.YtghdgjabpdfaoaaDoor.Flow
open Go

theorem index_one (c : UInt8) : ∀ s : List UInt8, Lib.index s [c] = if fndN c s < s.length then (fndN c s : Int) else -1
  | [] => rfl
  | b :: l => by
    have ih := index_one c l
    unfold Lib.index
    by_cases e : b = c
    · subst e
      have e1 : fndN b (b :: l) = 0 := by
        unfold fndN
        rw [List.takeWhile_cons, if_neg (by simp)]
        rfl
      rw [e1, if_pos (by simp), if_pos (by simp)]
      rfl
    · have e1 : fndN c (b :: l) = fndN c l + 1 := by
        unfold fndN
        rw [List.takeWhile_cons, if_pos (by simpa using e)]
        rfl
      have e2 : ¬ ([c].isPrefixOf (b :: l) = true) := by
        simp
        exact fun h => e h.symm
      rw [e1, if_neg e2, ih, List.length_cons]
      by_cases h : fndN c l < l.length
      · rw [if_pos h, if_neg (by simp), if_pos (by omega)]
        push_cast
        rfl
      · rw [if_neg h, if_pos (show ((-1 : Int) == -1) = true from rfl), if_neg (by omega)]
theorem cut_one (c : UInt8) (s : List UInt8) : Lib.cut s [c] = if fndN c s < s.length then (s.take (fndN c s), s.drop (fndN c s + 1), true) else (s, [], false) := by
  unfold Lib.cut
  rw [index_one]
  by_cases h : fndN c s < s.length
  · rw [if_pos h, if_pos h, if_pos (by omega)]
    rfl
  · rw [if_neg h, if_neg h, if_neg (by decide)]

theorem splitL_eq (s sep : List UInt8) (h1 : 1 ≤ sep.length) : splitL s sep = if Lib.index s sep = -1 then [s] else s.take (Lib.index s sep).toNat :: splitL (s.drop ((Lib.index s sep).toNat + sep.length)) sep := by
  have hI : Lib.indexB ⟨s.toArray⟩ ⟨sep.toArray⟩ = Lib.index s sep := rfl
  have hsz : (ByteArray.mk sep.toArray).size = sep.length := by simp [ByteArray.size]
  unfold splitL
  by_cases h : Lib.index s sep = -1
  · rw [if_pos h, Lib.countB_miss _ _ (hI.trans h), Lib.splitB_zero]
    rfl
  · rw [if_neg h]
    rcases Lib.indexB_cases ⟨s.toArray⟩ ⟨sep.toArray⟩ with hix | ⟨i, hix, hroom⟩
    · exact absurd (hI.symm.trans hix) h
    · have hi : Lib.index s sep = i := hI.symm.trans hix
      have hext : (ByteArray.mk s.toArray).extract (i + sep.length) (ByteArray.mk s.toArray).size = ⟨(s.drop (i + sep.length)).toArray⟩ := by
        apply ByteArray.ext
        simp [ByteArray.size]
        rw [List.take_of_length_le (by rw [List.length_drop]; omega)]
      rw [Lib.countB_hit _ _ i (by rw [hsz]; exact h1) hix, Nat.add_comm 1, Lib.splitB_hit _ _ _ _ i hix, hi, Int.toNat_natCast, List.map_cons, hsz, hext]
      congr 1
      simp
theorem splitL_one (c : UInt8) (s : List UInt8) : splitL s [c] = if fndN c s < s.length then s.take (fndN c s) :: splitL (s.drop (fndN c s + 1)) [c] else [s] := by
  rw [splitL_eq s [c] (Nat.le_refl 1), index_one]
  by_cases h : fndN c s < s.length
  · rw [if_pos h, if_pos h, if_neg (by omega), Int.toNat_natCast]
    rfl
  · rw [if_neg h, if_neg h, if_pos rfl]

/-! ### Elements -/
theorem drop_take_id (p : UInt8 → Bool) : ∀ (m : List UInt8) (k : Nat), ((m.dropWhile p).take k).dropWhile p = (m.dropWhile p).take k
  | [], k => by simp
  | c :: m, k => by
    by_cases h : p c = true
    · rw [List.dropWhile_cons, if_pos h]
      exact drop_take_id p m k
    · rw [List.dropWhile_cons, if_neg h]
      cases k with
      | zero => rfl
      | succ k => rw [List.take_succ_cons, List.dropWhile_cons, if_neg h]
theorem trim_part (s cs : List UInt8) (k : Nat) : Lib.trimS ((Lib.trimS s cs).take k) cs = Lib.trimRightS ((Lib.trimS s cs).take k) cs := by
  rw [trim_both cs ((Lib.trimS s cs).take k)]
  congr 1
  unfold Lib.trimS Lib.trimLeftS
  exact drop_take_id _ _ _
theorem trim_idem (s cs : List UInt8) : Lib.trimS (Lib.trimS s cs) cs = Lib.trimRightS (Lib.trimS s cs) cs := by
  have := trim_part s cs (Lib.trimS s cs).length
  rwa [List.take_length] at this

/-- A part's quality, if it has a name. -/
def qrV (s name : List UInt8) : Int × Bool := if (elemV s).2.2 = true ∧ (elemV s).1 = name then ((elemV s).2.1, true) else (0, false)
/-- The same by the document's words. -/
def qrW (s name : List UInt8) : Int × Bool :=
  let T := Lib.trimS s bl
  let k := fndN 59 T
  let r := Lib.trimS (T.drop (k + 1)) bl
  if ¬ smallL (Lib.trimS (T.take k) bl) = name then (0, false)
  else if k = T.length then (1000, true)
  else if r.length < 2 ∨ (¬ at' r 0 = 113 ∧ ¬ at' r 0 = 81) ∨ ¬ at' r 1 = 61 then (0, false)
  else qualV (r.drop 2)

theorem qualV_no {s : List UInt8} (h : (qualV s).2 = false) : qualV s = (0, false) := by
  unfold qualV at h ⊢
  split
  · rfl
  · rename_i h1
    rw [if_neg h1] at h
    split
    · rfl
    · rename_i h2
      rw [h2] at h
      dsimp only at h
      split at h
      · cases h
      · split at h
        · rename_i h3 h4
          rw [if_neg h3, if_pos h4]
        · cases h
theorem low_q : ∀ n : Fin 256, (UInt8.ofNat (lowI (n.1 : Int)).toNat = 113 ↔ ((n.1 : Int) = 113 ∨ (n.1 : Int) = 81)) ∧ (UInt8.ofNat (lowI (n.1 : Int)).toNat = 61 ↔ (n.1 : Int) = 61) := by decide +kernel
theorem small_q {r : List UInt8} (h : ¬ r.length < 2) : (¬ smallL (r.take 2) = [113, 61]) ↔ ((¬ at' r 0 = 113 ∧ ¬ at' r 0 = 81) ∨ ¬ at' r 1 = 61) := by
  match r, h with
  | [], h => simp at h
  | [_], h => simp at h
  | a :: b :: r, _ =>
    have ha := (low_q ⟨a.toNat, a.toNat_lt⟩).1
    have hb := (low_q ⟨b.toNat, b.toNat_lt⟩).2
    have e0 : at' (a :: b :: r) 0 = (a.toNat : Int) := rfl
    have e1 : at' (a :: b :: r) 1 = (b.toNat : Int) := rfl
    rw [e0, e1]
    have e2 : smallL ((a :: b :: r).take 2) = [UInt8.ofNat (lowI (a.toNat : Int)).toNat, UInt8.ofNat (lowI (b.toNat : Int)).toNat] := rfl
    rw [e2]
    simp only [List.cons.injEq, and_true]
    dsimp only at ha hb
    rw [ha, hb]
    omega
theorem elem_none {s : List UInt8} (h : ¬ fndN 59 (Lib.trimS s bl) < (Lib.trimS s bl).length) : elemV s = (smallL (Lib.trimRightS (Lib.trimS s bl) bl), 1000, true) := by
  unfold elemV
  rw [cut_one, if_neg h]
  rfl
theorem elem_some {s : List UInt8} (h : fndN 59 (Lib.trimS s bl) < (Lib.trimS s bl).length) : elemV s =
    if (Lib.trimS ((Lib.trimS s bl).drop (fndN 59 (Lib.trimS s bl) + 1)) bl).length < 2 ∨ ¬ smallL ((Lib.trimS ((Lib.trimS s bl).drop (fndN 59 (Lib.trimS s bl) + 1)) bl).take 2) = [113, 61] then ([], 0, false)
    else (smallL (Lib.trimRightS ((Lib.trimS s bl).take (fndN 59 (Lib.trimS s bl))) bl), qualV ((Lib.trimS ((Lib.trimS s bl).drop (fndN 59 (Lib.trimS s bl) + 1)) bl).drop 2)) := by
  unfold elemV
  rw [cut_one, if_pos h]
  exact if_neg Bool.noConfusion
theorem qr_eq (s name : List UInt8) (hn : ¬ name = []) : qrW s name = qrV s name := by
  have hle := fndN_le 59 (Lib.trimS s bl)
  have hp := trim_part s bl (fndN 59 (Lib.trimS s bl))
  have h1 := elem_none (s := s)
  have h2 := elem_some (s := s)
  unfold qrW qrV
  dsimp only
  generalize elemV s = E at *
  generalize Lib.trimS s bl = T at *
  generalize fndN 59 T = k at *
  rw [hp]
  by_cases h : k < T.length
  · rw [h2 h]
    clear h1 h2
    rw [if_neg (show ¬ k = T.length by omega)]
    generalize Lib.trimS (T.drop (k + 1)) bl = r at *
    generalize smallL (Lib.trimRightS (T.take k) bl) = nm at *
    by_cases h2 : r.length < 2
    · rw [if_pos (Or.inl h2), if_pos (Or.inl h2)]
      simp
    · by_cases h3 : smallL (r.take 2) = [113, 61]
      · have h5 := mt (small_q h2).2 (fun q => q h3)
        rw [if_neg (show ¬ (r.length < 2 ∨ ¬ smallL (r.take 2) = [113, 61]) from fun q => q.elim h2 fun q => q h3), if_neg (show ¬ (r.length < 2 ∨ (¬ at' r 0 = 113 ∧ ¬ at' r 0 = 81) ∨ ¬ at' r 1 = 61) from fun q => q.elim h2 h5)]
        dsimp only
        by_cases h4 : nm = name
        · rw [if_neg (fun q => q h4)]
          by_cases h5 : (qualV (r.drop 2)).2 = true
          · rw [if_pos ⟨h5, h4⟩, ← h5]
          · rw [if_neg (fun q => h5 q.1)]
            exact qualV_no (by simpa using h5)
        · rw [if_pos h4, if_neg (fun q => h4 q.2)]
      · rw [if_pos (show r.length < 2 ∨ ¬ smallL (r.take 2) = [113, 61] from Or.inr h3), if_pos (show r.length < 2 ∨ (¬ at' r 0 = 113 ∧ ¬ at' r 0 = 81) ∨ ¬ at' r 1 = 61 from Or.inr ((small_q h2).1 h3))]
        simp
  · rw [h1 h, if_pos (show k = T.length by omega), List.take_of_length_le (by omega)]
    by_cases h4 : smallL (Lib.trimRightS T bl) = name
    · rw [if_neg (fun q => q h4), if_pos ⟨rfl, h4⟩]
    · rw [if_pos h4, if_neg (fun q => h4 q.2)]

end Go.Proofs.YtghdgjabpdfaoaaDoor.Flow

/- REQ: the document's: qualities by names; is gzip taken? -/
namespace Go.Proofs.YtghdgjabpdfaoaaDoor.Flow
open Go

theorem drop_raw (s : List UInt8) (j : Nat) : List.drop ((j : Nat) : Int).toNat (List.take (s.length : Int).toNat s) = s.drop j := by
  rw [Int.toNat_natCast, Int.toNat_natCast, List.take_length]

set_option maxRecDepth 100000 in
set_option maxHeartbeats 2000000 in
theorem rqual_ctr (s name : List UInt8) (hs : s.length ≤ 100000) (hn : ¬ name = []) : Ctr Tryd.prog 97 [.s s, .s name] (.tu [.i .i64 (qrV s name).1, .b (qrV s name).2]) := by
  rw [← qr_eq s name hn]
  unfold qrW
  dsimp only
  have c1 := rtrim_ctr s (by omega)
  have l1 := trim_len s bl
  generalize Lib.trimS s bl = T at *
  have c2 := find_ctr T 0 59 (by omega) (Nat.zero_le _)
  rw [List.drop_zero, Nat.zero_add] at c2
  have l2 := fndN_le 59 T
  generalize fndN 59 T = k at *
  have c3 := rtrim_ctr (T.take k) (by rw [List.length_take]; omega)
  have l3 := trim_len (T.take k) bl
  rw [List.length_take] at l3
  have c4 := rsmall_ctr (Lib.trimS (T.take k) bl) (by omega)
  generalize smallL (Lib.trimS (T.take k) bl) = nm at *
  have c5 : Ctr Tryd.prog 49 [.s (List.drop ((k : Int) + 1).toNat (List.take (T.length : Int).toNat T))] (.s (Lib.trimS (T.drop (k + 1)) bl)) := by
    rw [show ((k : Int) + 1) = ((k + 1 : Nat) : Int) by omega, drop_raw]
    exact rtrim_ctr _ (by rw [List.length_drop]; omega)
  have l5 := trim_len (T.drop (k + 1)) bl
  rw [List.length_drop] at l5
  generalize Lib.trimS (T.drop (k + 1)) bl = r at *
  have c6 : Ctr Tryd.prog 16 [.s (List.drop (Int.toNat 2) (List.take (r.length : Int).toNat r))] (qualD (r.drop 2)) := by
    rw [show (2 : Int) = ((2 : Nat) : Int) from rfl, drop_raw]
    exact rquality_ctr _ (by rw [List.length_drop]; omega)
  refine r_fun Tryd.func97 rfl Tryd.ntmps97 Tryd.results97 rfl rfl fun X hL hX => ?_
  by_cases h1 : nm = name
  · rw [if_neg (fun q => q h1)]
    by_cases h2 : k = T.length
    · rw [if_pos h2]
      repeat' (first
        | refine r_call (f := 49) rfl rfl Tryd.call49 rfl c1 ?_ | refine r_call (f := 49) rfl rfl Tryd.call49 rfl c3 ?_ | refine r_call (f := 48) rfl rfl Tryd.call48 rfl c2 ?_ | refine r_call (f := 22) rfl rfl Tryd.call22 rfl c4 ?_
        | with_reducible (first | refine t_seq ?_ | refine t_region ?_ | refine c_nil ?_ | refine n_then ?_ | refine t_ret ?_ | refine t_skip ?_ | refine t_exit ?_ | refine t_block ?_ | refine n_block ?_ | refine e_then ?_ | refine x_then ?_ | refine x_block ?_ | refine t_draw ?_)
        | refine r_val rfl rfl True.intro ?_ | refine r_gskip rfl rfl rfl ?_ | refine r_gskip2 rfl rfl rfl ?_ | refine r_gval rfl rfl rfl rfl True.intro ?_
        | refine t_true rfl ?_ | refine t_false rfl ?_
        | ((first | refine t_cond_d rfl ?_ ?_ | refine t_cond_i rfl ?_ ?_ | refine t_cond_j rfl ?_ ?_ | refine t_cond_s rfl ?_ ?_ | refine t_cond_n rfl ?_ ?_ | refine t_cond rfl ?_ ?_ | refine c_split_d rfl rfl ?_ ?_ | refine c_split_i rfl rfl ?_ ?_ | refine c_split_j rfl rfl ?_ ?_ | refine c_split_s rfl rfl ?_ ?_ | refine c_split_n rfl rfl ?_ ?_) <;> intro <;> try (first | (rename_i hz; exact Bool.noConfusion (show true = false from hz)) | (rename_i hz; exact Bool.noConfusion (show false = true from hz)) | (exfalso; omega)))
        | ((first | refine r_val rfl rfl ?_ ?_ | refine r_gval rfl rfl rfl rfl ?_ ?_ | refine r_obj rfl rfl ?_ ?_ | refine r_sto rfl ?_ ?_ | refine r_gobj rfl rfl rfl rfl ?_ ?_); focus (first | omega | exact Nat.le_of_ble_eq_true rfl | (simp only [wrap_u8, IntKind.wrap_i64, IntKind.wrap_i32, wrap_u32', wrap_u64', InI]; (repeat' refine And.intro ?_ ?_) <;> omega) | ((repeat' refine And.intro ?_ ?_) <;> first | omega | rfl | exact Nat.le_refl _ | exact Nat.le_of_ble_eq_true rfl | exact bytesF_one _) | (simp_all; done) | (simp_all; omega)))
        | refine e_hit rfl ?_ | refine e_miss rfl ?_
        | with_reducible refine ⟨by kernel_rfl, ?_⟩ | refine x_end rfl ?_ | refine n_end rfl ?_ | ((with_reducible refine c_grd ?_); (fail_if_success (refine c_lit true rfl rfl rfl ?_)); (fail_if_success (refine c_lit false rfl rfl rfl ?_)); refine c_split rfl rfl (fun _ => ?_) (fun _ => ?_)))
      all_goals first
        | rfl
        | (exfalso; have hb := beq_iff_eq.2 h1; simp only [hb, Bool.true_eq_false] at *; done)
    · rw [if_neg h2]
      by_cases h3 : r.length < 2 ∨ (¬ at' r 0 = 113 ∧ ¬ at' r 0 = 81) ∨ ¬ at' r 1 = 61
      · rw [if_pos h3]
        repeat' (first
          | refine r_call (f := 49) rfl rfl Tryd.call49 rfl c1 ?_ | refine r_call (f := 49) rfl rfl Tryd.call49 rfl c3 ?_ | refine r_call (f := 49) rfl rfl Tryd.call49 rfl c5 ?_ | refine r_call (f := 48) rfl rfl Tryd.call48 rfl c2 ?_ | refine r_call (f := 22) rfl rfl Tryd.call22 rfl c4 ?_
          | with_reducible (first | refine t_seq ?_ | refine t_region ?_ | refine c_nil ?_ | refine n_then ?_ | refine t_ret ?_ | refine t_skip ?_ | refine t_exit ?_ | refine t_block ?_ | refine n_block ?_ | refine e_then ?_ | refine x_then ?_ | refine x_block ?_ | refine t_draw ?_)
          | refine r_val rfl rfl True.intro ?_ | refine r_gskip rfl rfl rfl ?_ | refine r_gskip2 rfl rfl rfl ?_ | refine r_gval rfl rfl rfl rfl True.intro ?_
          | refine t_true rfl ?_ | refine t_false rfl ?_
          | ((first | refine t_cond_d rfl ?_ ?_ | refine t_cond_i rfl ?_ ?_ | refine t_cond_j rfl ?_ ?_ | refine t_cond_s rfl ?_ ?_ | refine t_cond_n rfl ?_ ?_ | refine t_cond rfl ?_ ?_ | refine c_split_d rfl rfl ?_ ?_ | refine c_split_i rfl rfl ?_ ?_ | refine c_split_j rfl rfl ?_ ?_ | refine c_split_s rfl rfl ?_ ?_ | refine c_split_n rfl rfl ?_ ?_) <;> intro <;> try (first | (rename_i hz; exact Bool.noConfusion (show true = false from hz)) | (rename_i hz; exact Bool.noConfusion (show false = true from hz)) | (exfalso; omega)))
          | ((first | refine r_val rfl rfl ?_ ?_ | refine r_gval rfl rfl rfl rfl ?_ ?_ | refine r_obj rfl rfl ?_ ?_ | refine r_sto rfl ?_ ?_ | refine r_gobj rfl rfl rfl rfl ?_ ?_); focus (first | omega | exact Nat.le_of_ble_eq_true rfl | (simp only [wrap_u8, IntKind.wrap_i64, IntKind.wrap_i32, wrap_u32', wrap_u64', InI]; (repeat' refine And.intro ?_ ?_) <;> omega) | ((repeat' refine And.intro ?_ ?_) <;> first | omega | rfl | exact Nat.le_refl _ | exact Nat.le_of_ble_eq_true rfl | exact bytesF_one _) | (simp_all; done) | (simp_all; omega)))
          | refine e_hit rfl ?_ | refine e_miss rfl ?_
          | with_reducible refine ⟨by kernel_rfl, ?_⟩ | refine x_end rfl ?_ | refine n_end rfl ?_ | ((with_reducible refine c_grd ?_); (fail_if_success (refine c_lit true rfl rfl rfl ?_)); (fail_if_success (refine c_lit false rfl rfl rfl ?_)); refine c_split rfl rfl (fun _ => ?_) (fun _ => ?_)))
        all_goals first
          | rfl
          | (exfalso; have hb := beq_iff_eq.2 h1; simp only [hb, Bool.true_eq_false] at *; done)
          | (exfalso; omega)
          | trace_state
      · rw [if_neg h3]
        have h4 : ¬ r.length < 2 ∧ (at' r 0 = 113 ∨ at' r 0 = 81) ∧ at' r 1 = 61 := by omega
        clear h3
        repeat' (first
          | refine r_call (f := 49) rfl rfl Tryd.call49 rfl c1 ?_ | refine r_call (f := 49) rfl rfl Tryd.call49 rfl c3 ?_ | refine r_call (f := 49) rfl rfl Tryd.call49 rfl c5 ?_ | refine r_call (f := 48) rfl rfl Tryd.call48 rfl c2 ?_ | refine r_call (f := 22) rfl rfl Tryd.call22 rfl c4 ?_ | refine r_call (f := 16) rfl rfl Tryd.call16 rfl c6 ?_
          | with_reducible (first | refine t_seq ?_ | refine t_region ?_ | refine c_nil ?_ | refine n_then ?_ | refine t_ret ?_ | refine t_skip ?_ | refine t_exit ?_ | refine t_block ?_ | refine n_block ?_ | refine e_then ?_ | refine x_then ?_ | refine x_block ?_ | refine t_draw ?_)
          | refine r_val rfl rfl True.intro ?_ | refine r_gskip rfl rfl rfl ?_ | refine r_gskip2 rfl rfl rfl ?_ | refine r_gval rfl rfl rfl rfl True.intro ?_
          | refine t_true rfl ?_ | refine t_false rfl ?_
          | ((first | refine t_cond_d rfl ?_ ?_ | refine t_cond_i rfl ?_ ?_ | refine t_cond_j rfl ?_ ?_ | refine t_cond_s rfl ?_ ?_ | refine t_cond_n rfl ?_ ?_ | refine t_cond rfl ?_ ?_ | refine c_split_d rfl rfl ?_ ?_ | refine c_split_i rfl rfl ?_ ?_ | refine c_split_j rfl rfl ?_ ?_ | refine c_split_s rfl rfl ?_ ?_ | refine c_split_n rfl rfl ?_ ?_) <;> intro <;> try (first | (rename_i hz; exact Bool.noConfusion (show true = false from hz)) | (rename_i hz; exact Bool.noConfusion (show false = true from hz)) | (exfalso; omega)))
          | ((first | refine r_val rfl rfl ?_ ?_ | refine r_gval rfl rfl rfl rfl ?_ ?_ | refine r_obj rfl rfl ?_ ?_ | refine r_sto rfl ?_ ?_ | refine r_gobj rfl rfl rfl rfl ?_ ?_); focus (first | omega | exact Nat.le_of_ble_eq_true rfl | (simp only [wrap_u8, IntKind.wrap_i64, IntKind.wrap_i32, wrap_u32', wrap_u64', InI]; (repeat' refine And.intro ?_ ?_) <;> omega) | ((repeat' refine And.intro ?_ ?_) <;> first | omega | rfl | exact Nat.le_refl _ | exact Nat.le_of_ble_eq_true rfl | exact bytesF_one _) | (simp_all; done) | (simp_all; omega)))
          | refine e_hit rfl ?_ | refine e_miss rfl ?_
          | with_reducible refine ⟨by kernel_rfl, ?_⟩ | refine x_end rfl ?_ | refine n_end rfl ?_ | ((with_reducible refine c_grd ?_); (fail_if_success (refine c_lit true rfl rfl rfl ?_)); (fail_if_success (refine c_lit false rfl rfl rfl ?_)); refine c_split rfl rfl (fun _ => ?_) (fun _ => ?_)))
        all_goals first
          | rfl
          | (exfalso; have hb := beq_iff_eq.2 h1; simp only [hb, Bool.true_eq_false] at *; done)
          | (exfalso; omega)
          | trace_state
  · rw [if_pos h1]
    repeat' (first
      | refine r_call (f := 49) rfl rfl Tryd.call49 rfl c1 ?_ | refine r_call (f := 49) rfl rfl Tryd.call49 rfl c3 ?_ | refine r_call (f := 48) rfl rfl Tryd.call48 rfl c2 ?_ | refine r_call (f := 22) rfl rfl Tryd.call22 rfl c4 ?_
      | with_reducible (first | refine t_seq ?_ | refine t_region ?_ | refine c_nil ?_ | refine n_then ?_ | refine t_ret ?_ | refine t_skip ?_ | refine t_exit ?_ | refine t_block ?_ | refine n_block ?_ | refine e_then ?_ | refine x_then ?_ | refine x_block ?_ | refine t_draw ?_)
      | refine r_val rfl rfl True.intro ?_ | refine r_gskip rfl rfl rfl ?_ | refine r_gskip2 rfl rfl rfl ?_ | refine r_gval rfl rfl rfl rfl True.intro ?_
      | refine t_true rfl ?_ | refine t_false rfl ?_
      | ((first | refine t_cond_d rfl ?_ ?_ | refine t_cond_i rfl ?_ ?_ | refine t_cond_j rfl ?_ ?_ | refine t_cond_s rfl ?_ ?_ | refine t_cond_n rfl ?_ ?_ | refine t_cond rfl ?_ ?_ | refine c_split_d rfl rfl ?_ ?_ | refine c_split_i rfl rfl ?_ ?_ | refine c_split_j rfl rfl ?_ ?_ | refine c_split_s rfl rfl ?_ ?_ | refine c_split_n rfl rfl ?_ ?_) <;> intro <;> try (first | (rename_i hz; exact Bool.noConfusion (show true = false from hz)) | (rename_i hz; exact Bool.noConfusion (show false = true from hz)) | (exfalso; omega)))
      | ((first | refine r_val rfl rfl ?_ ?_ | refine r_gval rfl rfl rfl rfl ?_ ?_ | refine r_obj rfl rfl ?_ ?_ | refine r_sto rfl ?_ ?_ | refine r_gobj rfl rfl rfl rfl ?_ ?_); focus (first | omega | exact Nat.le_of_ble_eq_true rfl | (simp only [wrap_u8, IntKind.wrap_i64, IntKind.wrap_i32, wrap_u32', wrap_u64', InI]; (repeat' refine And.intro ?_ ?_) <;> omega) | ((repeat' refine And.intro ?_ ?_) <;> first | omega | rfl | exact Nat.le_refl _ | exact Nat.le_of_ble_eq_true rfl | exact bytesF_one _) | (simp_all; done) | (simp_all; omega)))
      | refine e_hit rfl ?_ | refine e_miss rfl ?_
      | with_reducible refine ⟨by kernel_rfl, ?_⟩ | refine x_end rfl ?_ | refine n_end rfl ?_ | ((with_reducible refine c_grd ?_); (fail_if_success (refine c_lit true rfl rfl rfl ?_)); (fail_if_success (refine c_lit false rfl rfl rfl ?_)); refine c_split rfl rfl (fun _ => ?_) (fun _ => ?_)))
    all_goals first
      | rfl
      | (exfalso; have hb := beq_eq_false_iff_ne.2 h1; simp only [hb, Bool.false_eq_true] at *; done)
      | trace_state

/-! ### The first part with a name -/
theorem iget_app {k : List UInt8} {k2 : List UInt8} {q : Int} : ∀ {es : Fnd}, iget k (es ++ [(k2, q)]) = match iget k es with
    | some x => some x
    | none => if k2 = k then some q else none
  | [] => rfl
  | p :: r => by
    have ih := iget_app (k := k) (k2 := k2) (q := q) (es := r)
    show iget k (p :: (r ++ [(k2, q)])) = _
    unfold iget
    by_cases e : p.1 = k
    · rw [if_pos e, if_pos e]
    · rw [if_neg e, if_neg e, ih]
theorem iget_add (es : Fnd) (s name : List UInt8) : iget name (addV es s) = match iget name es with
    | some x => some x
    | none => if (qrV s name).2 = true then some (qrV s name).1 else none := by
  unfold addV qrV
  by_cases h : (elemV s).2.2 = true ∧ iget (elemV s).1 es = none
  · rw [if_pos h, iget_app]
    cases hi : iget name es with
    | some x => rfl
    | none =>
      dsimp only
      by_cases hn : (elemV s).1 = name
      · rw [if_pos hn, if_pos (show (elemV s).2.2 = true ∧ (elemV s).1 = name from ⟨h.1, hn⟩)]
        exact (if_pos rfl).symm
      · rw [if_neg hn, if_neg (show ¬ ((elemV s).2.2 = true ∧ (elemV s).1 = name) from fun q => hn q.2)]
        exact (if_neg Bool.false_ne_true).symm
  · rw [if_neg h]
    cases hi : iget name es with
    | some x => rfl
    | none =>
      dsimp only
      by_cases hn : (elemV s).2.2 = true ∧ (elemV s).1 = name
      · exact absurd ⟨hn.1, by rw [hn.2]; exact hi⟩ h
      · rw [if_neg hn]
        exact (if_neg Bool.false_ne_true).symm
theorem iget_keep {name : List UInt8} {x : Int} : ∀ {ps : List (List UInt8)} {es : Fnd}, iget name es = some x → iget name (partsV es ps) = some x
  | [], _, h => h
  | p :: ps, es, h => by
    show iget name (partsV (addV es p) ps) = some x
    refine iget_keep (ps := ps) ?_
    rw [iget_add, h]
theorem iget_vals {name : List UInt8} {x : Int} : ∀ {vs : List (List UInt8)} {es : Fnd}, iget name es = some x → iget name (vs.foldl (fun es v => partsV es (splitL v [44])) es) = some x
  | [], _, h => h
  | v :: vs, es, h => by
    show iget name (vs.foldl _ (partsV es (splitL v [44]))) = some x
    exact iget_vals (iget_keep h)
theorem vals_done {vs : List (List UInt8)} {name : List UInt8} {x : Int} {i : Nat} (h : iget name (valsV (vs.take i)) = some x) : iget name (valsV vs) = some x := by
  have e : valsV vs = (vs.drop i).foldl (fun es v => partsV es (splitL v [44])) (valsV (vs.take i)) := by
    unfold valsV
    rw [← List.foldl_append, List.take_append_drop]
  rw [e]
  exact iget_vals h
theorem parts_next {s : List UInt8} {es : Fnd} {a : Nat} (ha : a ≤ s.length) : partsV es (splitL (s.drop a) [44]) =
    if a + fndN 44 (s.drop a) < s.length then partsV (addV es ((s.take (a + fndN 44 (s.drop a))).drop a)) (splitL (s.drop (a + fndN 44 (s.drop a) + 1)) [44]) else addV es ((s.take (a + fndN 44 (s.drop a))).drop a) := by
  have hl := fndN_le 44 (s.drop a)
  rw [splitL_one, List.length_drop] at *
  have e : (s.take (a + fndN 44 (s.drop a))).drop a = (s.drop a).take (fndN 44 (s.drop a)) := by
    rw [List.drop_take]
    congr 1
    omega
  rw [e]
  by_cases h : fndN 44 (s.drop a) < s.length - a
  · rw [if_pos h, if_pos (by omega), List.drop_drop, Nat.add_assoc]
    rfl
  · rw [if_neg h, if_neg (by omega), List.take_of_length_le (by rw [List.length_drop]; omega)]
    rfl

def bestD (name : List UInt8) (vs : List (List UInt8)) : D := match iget name (valsV vs) with
  | some q => .tu [.i .i64 q, .b true]
  | none => .tu [.i .i64 0, .b false]

set_option maxRecDepth 100000 in
set_option maxHeartbeats 2000000 in
theorem best_ctr (vs : List (List UInt8)) (name : List UInt8) (hn : ¬ name = []) (hl : vs.length ≤ 3000) (hv : ∀ i, (vs.getD i []).length ≤ 100000) : Ctr Tryd.prog 71 [.sl 1 vs.length (wxF vs), .s name] (bestD name vs) := by
  refine r_fun Tryd.func71 rfl Tryd.ntmps71 Tryd.results71 rfl (by unfold bestD; split <;> rfl) fun X hL hX => ?_
  repeat' (first
    | with_reducible (first | refine t_seq ?_ | refine t_region ?_ | refine c_nil ?_ | refine n_then ?_ | refine t_ret ?_ | refine t_skip ?_ | refine t_exit ?_ | refine t_block ?_ | refine n_block ?_ | refine e_then ?_ | refine x_then ?_ | refine x_block ?_ | refine t_draw ?_)
    | refine r_val rfl rfl True.intro ?_ | refine r_gskip rfl rfl rfl ?_ | refine r_gskip2 rfl rfl rfl ?_ | refine r_gval rfl rfl rfl rfl True.intro ?_
    | refine t_true rfl ?_ | refine t_false rfl ?_
    | ((first | refine t_cond_d rfl ?_ ?_ | refine t_cond_i rfl ?_ ?_ | refine t_cond_j rfl ?_ ?_ | refine t_cond_s rfl ?_ ?_ | refine t_cond_n rfl ?_ ?_ | refine t_cond rfl ?_ ?_ | refine c_split_d rfl rfl ?_ ?_ | refine c_split_i rfl rfl ?_ ?_ | refine c_split_j rfl rfl ?_ ?_ | refine c_split_s rfl rfl ?_ ?_ | refine c_split_n rfl rfl ?_ ?_) <;> intro <;> try (first | (rename_i hz; exact Bool.noConfusion (show true = false from hz)) | (rename_i hz; exact Bool.noConfusion (show false = true from hz)) | (exfalso; omega)))
    | ((first | refine r_val rfl rfl ?_ ?_ | refine r_gval rfl rfl rfl rfl ?_ ?_ | refine r_obj rfl rfl ?_ ?_ | refine r_sto rfl ?_ ?_ | refine r_gobj rfl rfl rfl rfl ?_ ?_); focus (first | omega | exact Nat.le_of_ble_eq_true rfl | (simp only [wrap_u8, IntKind.wrap_i64, IntKind.wrap_i32, wrap_u32', wrap_u64', InI]; (repeat' refine And.intro ?_ ?_) <;> omega) | ((repeat' refine And.intro ?_ ?_) <;> first | omega | rfl | exact Nat.le_refl _ | exact Nat.le_of_ble_eq_true rfl | exact bytesF_one _) | (simp_all; done) | (simp_all; omega)))
    | refine e_hit rfl ?_ | refine e_miss rfl ?_
    | with_reducible refine ⟨by kernel_rfl, ?_⟩ | ((with_reducible refine c_grd ?_); (fail_if_success (refine c_lit true rfl rfl rfl ?_)); (fail_if_success (refine c_lit false rfl rfl rfl ?_)); refine c_split rfl rfl (fun _ => ?_) (fun _ => ?_)))
  refine T.loop hL (fun i : Nat => [(0, .sl 1 vs.length (wxF vs)), (1, .s name), (6, .i .i64 i)]) (fun _ => []) (fun i => i ≤ vs.length ∧ iget name (valsV (vs.take i)) = none) (fun i => vs.length - i) 0 ⟨Nat.zero_le _, rfl⟩
    ⟨⟨rfl, rfl, rfl, trivial⟩, trivial, rfl, fun q hq => by rw [hX] at hq; simp at hq⟩ ?_
  rintro i ⟨hi, hno⟩
  by_cases hil : i < vs.length
  · have hsucc := vals_succ hil
    have hnat : (i : Int).toNat = i := Int.toNat_natCast i
    have hvi := hv i
    have hraw : (vs.getD (i : Int).toNat []).length = (vs.getD i []).length := by rw [hnat]
    repeat' (first
      | with_reducible (first | refine t_seq ?_ | refine t_region ?_ | refine c_nil ?_ | refine n_then ?_ | refine t_ret ?_ | refine t_skip ?_ | refine t_exit ?_ | refine t_block ?_ | refine n_block ?_ | refine e_then ?_ | refine x_then ?_ | refine x_block ?_ | refine t_draw ?_)
      | refine r_val rfl rfl True.intro ?_ | refine r_gskip rfl rfl rfl ?_ | refine r_gskip2 rfl rfl rfl ?_ | refine r_gval rfl rfl rfl rfl True.intro ?_
      | refine t_true rfl ?_ | refine t_false rfl ?_
      | ((first | refine t_cond_d rfl ?_ ?_ | refine t_cond_i rfl ?_ ?_ | refine t_cond_j rfl ?_ ?_ | refine t_cond_s rfl ?_ ?_ | refine t_cond_n rfl ?_ ?_ | refine t_cond rfl ?_ ?_ | refine c_split_d rfl rfl ?_ ?_ | refine c_split_i rfl rfl ?_ ?_ | refine c_split_j rfl rfl ?_ ?_ | refine c_split_s rfl rfl ?_ ?_ | refine c_split_n rfl rfl ?_ ?_) <;> intro <;> try (first | (rename_i hz; exact Bool.noConfusion (show true = false from hz)) | (rename_i hz; exact Bool.noConfusion (show false = true from hz)) | (exfalso; omega)))
      | ((first | refine r_val rfl rfl ?_ ?_ | refine r_gval rfl rfl rfl rfl ?_ ?_ | refine r_obj rfl rfl ?_ ?_ | refine r_sto rfl ?_ ?_ | refine r_gobj rfl rfl rfl rfl ?_ ?_); focus (first | omega | exact Nat.le_of_ble_eq_true rfl | (simp only [wrap_u8, IntKind.wrap_i64, IntKind.wrap_i32, wrap_u32', wrap_u64', InI]; (repeat' refine And.intro ?_ ?_) <;> omega) | ((repeat' refine And.intro ?_ ?_) <;> first | omega | rfl | exact Nat.le_refl _ | exact Nat.le_of_ble_eq_true rfl | exact bytesF_one _) | (simp_all; done) | (simp_all; omega)))
      | refine e_hit rfl ?_ | refine e_miss rfl ?_
      | with_reducible refine ⟨by kernel_rfl, ?_⟩ | ((with_reducible refine c_grd ?_); (fail_if_success (refine c_lit true rfl rfl rfl ?_)); (fail_if_success (refine c_lit false rfl rfl rfl ?_)); refine c_split rfl rfl (fun _ => ?_) (fun _ => ?_)))
    refine T.loop hL (fun x : Nat × Fnd => [(0, .sl 1 vs.length (wxF vs)), (1, .s name), (6, .i .i64 i), (7, .i .i64 x.1)]) (fun _ => [])
      (fun x => iget name x.2 = none ∧ ((x.1 ≤ (vs.getD i []).length ∧ partsV x.2 (splitL ((vs.getD i []).drop x.1) [44]) = valsV (vs.take (i + 1))) ∨ (x.1 = (vs.getD i []).length + 1 ∧ x.2 = valsV (vs.take (i + 1))))) (fun x => (vs.getD i []).length + 1 - x.1) (0, valsV (vs.take i)) ⟨hno, .inl ⟨Nat.zero_le _, hsucc.symm⟩⟩
      ⟨⟨rfl, rfl, rfl, rfl, trivial⟩, trivial, rfl, fun q hq => by rw [hX] at hq; simp at hq⟩ ?_
    rintro ⟨a, es⟩ ⟨hes, hst⟩
    dsimp only at hes hst ⊢
    by_cases ha : a ≤ (vs.getD i []).length
    · have hst : partsV es (splitL ((vs.getD i []).drop a) [44]) = valsV (vs.take (i + 1)) := by
        rcases hst with h | h
        · exact h.2
        · omega
      rw [parts_next ha] at hst
      have c1 := find_ctr (vs.getD i []) a 44 (by omega) ha
      have hfl := fndN_le 44 ((vs.getD i []).drop a)
      rw [List.length_drop] at hfl
      generalize he : a + fndN 44 ((vs.getD i []).drop a) = e at *
      have c2 := rqual_ctr (((vs.getD i []).take e).drop a) name (by rw [List.length_drop, List.length_take]; omega) hn
      have hadd := iget_add es (((vs.getD i []).take e).drop a) name
      rw [hes] at hadd
      dsimp only at hadd
      generalize qrV (((vs.getD i []).take e).drop a) name = R at *
      obtain ⟨q, ok⟩ := R
      cases ok with
      | true =>
        have hadd : iget name (addV es (((vs.getD i []).take e).drop a)) = some q := hadd
        have hfin : iget name (valsV vs) = some q := vals_done (i := i + 1) (by
          rw [← hst]
          split
          · exact iget_keep hadd
          · exact hadd)
        have hD : bestD name vs = .tu [.i .i64 q, .b true] := by unfold bestD; rw [hfin]
        rw [hD]
        clear hst hsucc
        repeat' (first
          | refine r_call (f := 48) rfl rfl Tryd.call48 rfl c1 ?_ | refine r_call (f := 97) rfl rfl Tryd.call97 rfl c2 ?_
          | with_reducible (first | refine t_seq ?_ | refine t_region ?_ | refine c_nil ?_ | refine n_then ?_ | refine t_ret ?_ | refine t_skip ?_ | refine t_exit ?_ | refine t_block ?_ | refine n_block ?_ | refine e_then ?_ | refine x_then ?_ | refine x_block ?_ | refine t_draw ?_)
          | refine r_val rfl rfl True.intro ?_ | refine r_gskip rfl rfl rfl ?_ | refine r_gskip2 rfl rfl rfl ?_ | refine r_gval rfl rfl rfl rfl True.intro ?_
          | refine t_true rfl ?_ | refine t_false rfl ?_
          | ((first | refine t_cond_d rfl ?_ ?_ | refine t_cond_i rfl ?_ ?_ | refine t_cond_j rfl ?_ ?_ | refine t_cond_s rfl ?_ ?_ | refine t_cond_n rfl ?_ ?_ | refine t_cond rfl ?_ ?_ | refine c_split_d rfl rfl ?_ ?_ | refine c_split_i rfl rfl ?_ ?_ | refine c_split_j rfl rfl ?_ ?_ | refine c_split_s rfl rfl ?_ ?_ | refine c_split_n rfl rfl ?_ ?_) <;> intro <;> try (first | (rename_i hz; exact Bool.noConfusion (show true = false from hz)) | (rename_i hz; exact Bool.noConfusion (show false = true from hz)) | (exfalso; omega)))
          | ((first | refine r_val rfl rfl ?_ ?_ | refine r_gval rfl rfl rfl rfl ?_ ?_ | refine r_obj rfl rfl ?_ ?_ | refine r_sto rfl ?_ ?_ | refine r_gobj rfl rfl rfl rfl ?_ ?_); focus (first | omega | exact Nat.le_of_ble_eq_true rfl | (simp only [wrap_u8, IntKind.wrap_i64, IntKind.wrap_i32, wrap_u32', wrap_u64', InI]; (repeat' refine And.intro ?_ ?_) <;> omega) | ((repeat' refine And.intro ?_ ?_) <;> first | omega | rfl | exact Nat.le_refl _ | exact Nat.le_of_ble_eq_true rfl | exact bytesF_one _) | (simp_all; done) | (simp_all; omega)))
          | refine e_hit rfl ?_ | refine e_miss rfl ?_
          | with_reducible refine ⟨by kernel_rfl, ?_⟩ | refine x_end rfl ?_ | refine n_end rfl ?_ | ((with_reducible refine c_grd ?_); (fail_if_success (refine c_lit true rfl rfl rfl ?_)); (fail_if_success (refine c_lit false rfl rfl rfl ?_)); refine c_split rfl rfl (fun _ => ?_) (fun _ => ?_)))
        all_goals first
          | rfl
          | trace_state
      | false =>
        have hadd : iget name (addV es (((vs.getD i []).take e).drop a)) = none := hadd
        have hlf : e < (vs.getD i []).length ∨ e = (vs.getD i []).length := by omega
        clear hsucc
        repeat' (first
          | refine r_call (f := 48) rfl rfl Tryd.call48 rfl c1 ?_ | refine r_call (f := 97) rfl rfl Tryd.call97 rfl c2 ?_
          | with_reducible (first | refine t_seq ?_ | refine t_region ?_ | refine c_nil ?_ | refine n_then ?_ | refine t_ret ?_ | refine t_skip ?_ | refine t_exit ?_ | refine t_block ?_ | refine n_block ?_ | refine e_then ?_ | refine x_then ?_ | refine x_block ?_ | refine t_draw ?_)
          | refine r_val rfl rfl True.intro ?_ | refine r_gskip rfl rfl rfl ?_ | refine r_gskip2 rfl rfl rfl ?_ | refine r_gval rfl rfl rfl rfl True.intro ?_
          | refine t_true rfl ?_ | refine t_false rfl ?_
          | ((first | refine t_cond_d rfl ?_ ?_ | refine t_cond_i rfl ?_ ?_ | refine t_cond_j rfl ?_ ?_ | refine t_cond_s rfl ?_ ?_ | refine t_cond_n rfl ?_ ?_ | refine t_cond rfl ?_ ?_ | refine c_split_d rfl rfl ?_ ?_ | refine c_split_i rfl rfl ?_ ?_ | refine c_split_j rfl rfl ?_ ?_ | refine c_split_s rfl rfl ?_ ?_ | refine c_split_n rfl rfl ?_ ?_) <;> intro <;> try (first | (rename_i hz; exact Bool.noConfusion (show true = false from hz)) | (rename_i hz; exact Bool.noConfusion (show false = true from hz)) | (exfalso; omega)))
          | ((first | refine r_val rfl rfl ?_ ?_ | refine r_gval rfl rfl rfl rfl ?_ ?_ | refine r_obj rfl rfl ?_ ?_ | refine r_sto rfl ?_ ?_ | refine r_gobj rfl rfl rfl rfl ?_ ?_); focus (first | omega | exact Nat.le_of_ble_eq_true rfl | (simp only [wrap_u8, IntKind.wrap_i64, IntKind.wrap_i32, wrap_u32', wrap_u64', InI]; (repeat' refine And.intro ?_ ?_) <;> omega) | ((repeat' refine And.intro ?_ ?_) <;> first | omega | rfl | exact Nat.le_refl _ | exact Nat.le_of_ble_eq_true rfl | exact bytesF_one _) | (simp_all; done) | (simp_all; omega)))
          | refine e_hit rfl ?_ | refine e_miss rfl ?_
          | with_reducible refine ⟨by kernel_rfl, ?_⟩ | refine x_end rfl ?_ | refine n_end rfl ?_ | ((with_reducible refine c_grd ?_); (fail_if_success (refine c_lit true rfl rfl rfl ?_)); (fail_if_success (refine c_lit false rfl rfl rfl ?_)); refine c_split rfl rfl (fun _ => ?_) (fun _ => ?_)))
        all_goals first
          | exact ⟨(e + 1, addV es (((vs.getD i []).take e).drop a)), ⟨hadd, by
              dsimp only
              by_cases h : e < (vs.getD i []).length
              · rw [if_pos h] at hst
                exact .inl ⟨by omega, hst⟩
              · rw [if_neg h] at hst
                exact .inr ⟨by omega, hst⟩⟩, by dsimp only; omega, ⟨rfl, rfl, rfl, congrArg (D.i .i64) (by dsimp only; omega), trivial⟩, trivial, rfl, fun q hq => by rw [hX] at hq; simp at hq⟩
          | trace_state
    · have hst : a = (vs.getD i []).length + 1 ∧ es = valsV (vs.take (i + 1)) := by
        rcases hst with h | h
        · omega
        · exact h
      rw [hst.2] at hes
      repeat' (first
        | with_reducible (first | refine t_seq ?_ | refine t_region ?_ | refine c_nil ?_ | refine n_then ?_ | refine t_ret ?_ | refine t_skip ?_ | refine t_exit ?_ | refine t_block ?_ | refine n_block ?_ | refine e_then ?_ | refine x_then ?_ | refine x_block ?_ | refine t_draw ?_)
        | refine r_val rfl rfl True.intro ?_ | refine r_gskip rfl rfl rfl ?_ | refine r_gskip2 rfl rfl rfl ?_ | refine r_gval rfl rfl rfl rfl True.intro ?_
        | refine t_true rfl ?_ | refine t_false rfl ?_
        | ((first | refine t_cond_d rfl ?_ ?_ | refine t_cond_i rfl ?_ ?_ | refine t_cond_j rfl ?_ ?_ | refine t_cond_s rfl ?_ ?_ | refine t_cond_n rfl ?_ ?_ | refine t_cond rfl ?_ ?_ | refine c_split_d rfl rfl ?_ ?_ | refine c_split_i rfl rfl ?_ ?_ | refine c_split_j rfl rfl ?_ ?_ | refine c_split_s rfl rfl ?_ ?_ | refine c_split_n rfl rfl ?_ ?_) <;> intro <;> try (first | (rename_i hz; exact Bool.noConfusion (show true = false from hz)) | (rename_i hz; exact Bool.noConfusion (show false = true from hz)) | (exfalso; omega)))
        | ((first | refine r_val rfl rfl ?_ ?_ | refine r_gval rfl rfl rfl rfl ?_ ?_ | refine r_obj rfl rfl ?_ ?_ | refine r_sto rfl ?_ ?_ | refine r_gobj rfl rfl rfl rfl ?_ ?_); focus (first | omega | exact Nat.le_of_ble_eq_true rfl | (simp only [wrap_u8, IntKind.wrap_i64, IntKind.wrap_i32, wrap_u32', wrap_u64', InI]; (repeat' refine And.intro ?_ ?_) <;> omega) | ((repeat' refine And.intro ?_ ?_) <;> first | omega | rfl | exact Nat.le_refl _ | exact Nat.le_of_ble_eq_true rfl | exact bytesF_one _) | (simp_all; done) | (simp_all; omega)))
        | refine e_hit rfl ?_ | refine e_miss rfl ?_
        | with_reducible refine ⟨by kernel_rfl, ?_⟩ | refine x_end rfl ?_ | refine n_end rfl ?_ | ((with_reducible refine c_grd ?_); (fail_if_success (refine c_lit true rfl rfl rfl ?_)); (fail_if_success (refine c_lit false rfl rfl rfl ?_)); refine c_split rfl rfl (fun _ => ?_) (fun _ => ?_)))
      all_goals first
        | exact ⟨i + 1, ⟨by omega, hes⟩, by omega, ⟨rfl, rfl, congrArg (D.i .i64) (by omega), trivial⟩, trivial, rfl, fun q hq => by rw [hX] at hq; simp at hq⟩
        | trace_state
  · have : i = vs.length := by omega
    subst this
    rw [List.take_length] at hno
    have hD : bestD name vs = .tu [.i .i64 0, .b false] := by unfold bestD; rw [hno]
    rw [hD]
    repeat' (first
      | with_reducible (first | refine t_seq ?_ | refine t_region ?_ | refine c_nil ?_ | refine n_then ?_ | refine t_ret ?_ | refine t_skip ?_ | refine t_exit ?_ | refine t_block ?_ | refine n_block ?_ | refine e_then ?_ | refine x_then ?_ | refine x_block ?_ | refine t_draw ?_)
      | refine r_val rfl rfl True.intro ?_ | refine r_gskip rfl rfl rfl ?_ | refine r_gskip2 rfl rfl rfl ?_ | refine r_gval rfl rfl rfl rfl True.intro ?_
      | refine t_true rfl ?_ | refine t_false rfl ?_
      | ((first | refine t_cond_d rfl ?_ ?_ | refine t_cond_i rfl ?_ ?_ | refine t_cond_j rfl ?_ ?_ | refine t_cond_s rfl ?_ ?_ | refine t_cond_n rfl ?_ ?_ | refine t_cond rfl ?_ ?_ | refine c_split_d rfl rfl ?_ ?_ | refine c_split_i rfl rfl ?_ ?_ | refine c_split_j rfl rfl ?_ ?_ | refine c_split_s rfl rfl ?_ ?_ | refine c_split_n rfl rfl ?_ ?_) <;> intro <;> try (first | (rename_i hz; exact Bool.noConfusion (show true = false from hz)) | (rename_i hz; exact Bool.noConfusion (show false = true from hz)) | (exfalso; omega)))
      | ((first | refine r_val rfl rfl ?_ ?_ | refine r_gval rfl rfl rfl rfl ?_ ?_ | refine r_obj rfl rfl ?_ ?_ | refine r_sto rfl ?_ ?_ | refine r_gobj rfl rfl rfl rfl ?_ ?_); focus (first | omega | exact Nat.le_of_ble_eq_true rfl | (simp only [wrap_u8, IntKind.wrap_i64, IntKind.wrap_i32, wrap_u32', wrap_u64', InI]; (repeat' refine And.intro ?_ ?_) <;> omega) | ((repeat' refine And.intro ?_ ?_) <;> first | omega | rfl | exact Nat.le_refl _ | exact Nat.le_of_ble_eq_true rfl | exact bytesF_one _) | (simp_all; done) | (simp_all; omega)))
      | refine e_hit rfl ?_ | refine e_miss rfl ?_
      | with_reducible refine ⟨by kernel_rfl, ?_⟩ | refine x_end rfl ?_ | refine n_end rfl ?_ | ((with_reducible refine c_grd ?_); (fail_if_success (refine c_lit true rfl rfl rfl ?_)); (fail_if_success (refine c_lit false rfl rfl rfl ?_)); refine c_split rfl rfl (fun _ => ?_) (fun _ => ?_)))
    all_goals first
      | rfl
      | trace_state

end Go.Proofs.YtghdgjabpdfaoaaDoor.Flow
