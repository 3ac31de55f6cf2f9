/- The texts RJ10, one behind the other. -/
import Derived.Test.YtbegohehjkjnmaaDoorMR28
namespace Go.Proofs.YtbegohehjkjnmaaDoor.Flow
open Go

theorem jkey_short {s : List UInt8} {i j : Nat} {ks : List (List UInt8)} (hj : skN s i = j) (h : ¬ j < s.length) : jkey s i ks = .inr (j, 2) := by
  subst hj
  unfold jkey jpeek
  rw [if_neg h]
theorem jkey_quote {s : List UInt8} {i j : Nat} {ks : List (List UInt8)} (hj : skN s i = j) (h : j < s.length) (h2 : ¬ at' s j = 34) : jkey s i ks = .inr (j, 3) := by
  subst hj
  unfold jkey jpeek
  rw [if_pos h]
  dsimp only
  rw [if_pos h2]
theorem jkey_text {s : List UInt8} {i j : Nat} {ks : List (List UInt8)} {k : List UInt8} {n e : Int} (hj : skN s i = j) (h : j < s.length) (h2 : at' s j = 34) (hu : unqF s j = (k, n, e)) (he : ¬ e = 0) : jkey s i ks = .inr (j, e) := by
  subst hj
  unfold jkey jpeek jtext
  rw [if_pos h]
  dsimp only
  rw [if_neg (fun q => q h2), hu]
  dsimp only
  rw [if_neg he]
theorem jkey_more {s : List UInt8} {i j : Nat} {ks : List (List UInt8)} {k : List UInt8} {n : Nat} (hj : skN s i = j) (h : j < s.length) (h2 : at' s j = 34) (hu : unqF s j = (k, (n : Int), 0)) : jkey s i ks = if k ∈ ks then .inr (j, 3) else
      match jpeek s n with
      | .inr e => .inr e
      | .inl m => if ¬ at' s m = 58 then .inr (m, 3) else .inl (k, m + 1) := by
  subst hj
  conv => lhs; unfold jkey
  conv => lhs; unfold jpeek jtext
  rw [if_pos h]
  dsimp only
  rw [if_neg (fun q => q h2), hu]
  dsimp only
  rw [if_pos rfl, Int.toNat_natCast]
  rfl

set_option maxRecDepth 100000 in
set_option maxHeartbeats 16000000 in
theorem rmany_false (s : List UInt8) (val : Nat → JR) (d : Nat) (hs : s.length ≤ 5000) (hd : d ≤ 100) (hv : ValOk s val) (he : ErrOk val) (hval : ∀ i, i ≤ s.length → Ctr Tryd.prog 28 [.s s, .i .i64 i, .i .i64 d] (rjD (val i))) (i : Nat) (hi : i < s.length) (hst : at' s i = 91) :
    Ctr Tryd.prog 46 [.s s, .i .i64 i, .i .i64 (d + 1 : Nat)] (rjD (jmany s val false i)) := by
  have hd1 : ((d + 1 : Nat) : Int) - 1 = d := by omega
  have c0 : Ctr Tryd.prog 29 [.s s, .i .i64 ((i : Int) + 1)] (.i .i64 (skN s (i + 1))) := rskip_ctr s (i + 1) (by omega) hi
  have hle := skN_le (s := s) (i := i + 1) hi
  unfold jmany jpeek
  generalize hji : skN s (i + 1) = j at *
  by_cases hj : j < s.length
  · rw [if_pos hj]
    dsimp only
    by_cases he0 : at' s j = endM false
    · rw [if_pos he0]
      have he' : at' s j = 93 := he0
      refine r_fun Tryd.func46 rfl Tryd.ntmps46 Tryd.results46 rfl (rjD_free _) fun X hL hX => ?_
      repeat' (first |refine r_valA (t := 38) rfl rfl (le_ rfl) ?_|refine r_valA (t := 135) rfl rfl (le_ rfl) ?_|refine r_call (f := 29) rfl rfl Tryd.call29 rfl c0 ?_|with_reducible (first |refine t_seq ?_|refine t_region ?_|refine c_nil ?_|refine n_then ?_|refine t_ret ?_|refine t_skip ?_|refine t_exit ?_|refine t_block ?_|refine n_block ?_|refine e_then ?_|refine x_then ?_|refine x_block ?_|refine t_draw ?_)|refine r_val rfl rfl True.intro ?_|refine r_gskip rfl rfl rfl ?_|refine r_gskip2 rfl rfl rfl ?_|refine r_gval rfl rfl rfl rfl True.intro ?_|refine t_true rfl ?_|refine t_false rfl ?_|((first |refine t_cond_d rfl ?_ ?_|refine t_cond_i rfl ?_ ?_|refine t_cond_j rfl ?_ ?_|refine t_cond_s rfl ?_ ?_|refine t_cond_n rfl ?_ ?_|refine t_cond rfl ?_ ?_|refine c_split_d rfl rfl ?_ ?_|refine c_split_i rfl rfl ?_ ?_|refine c_split_j rfl rfl ?_ ?_|refine c_split_s rfl rfl ?_ ?_|refine c_split_n rfl rfl ?_ ?_)<;>intro<;>try (first |(rename_i hz;first |exact tf_ hz|exact ft_ hz)|(exfalso;omega)))|((first |refine r_val rfl rfl ?_ ?_|refine r_gval rfl rfl rfl rfl ?_ ?_|refine r_obj rfl rfl ?_ ?_|refine r_sto rfl ?_ ?_|refine r_gobj rfl rfl rfl rfl ?_ ?_);focus (first |omega|exact le_ rfl|((repeat first |rw [wrap_u8]|rw [IntKind.wrap_i64]|rw [IntKind.wrap_i32]|rw [wrap_u32']|rw [wrap_u64']);(repeat' refine And.intro ?_ ?_)<;>omega)|((repeat' refine And.intro ?_ ?_)<;>first |omega|rfl|exact Nat.le_refl _|exact le_ rfl|exact bytesF_one _)|(simp_all;done)|(simp_all;omega)))|refine e_hit rfl ?_|refine e_miss rfl ?_|with_reducible refine ⟨by kernel_rfl, ?_⟩|refine x_endw rfl ?_|((with_reducible refine c_grd ?_);(fail_if_success (refine c_lit true rfl rfl rfl ?_));(fail_if_success (refine c_lit false rfl rfl rfl ?_));refine c_split rfl rfl (fun _ => ?_) (fun _ => ?_)))
      all_goals exact .tu3 (lit_weak (kindM false) false) (.of_eq (congrArg (D.i .i64) (by omega))) (.refl _)
    · rw [if_neg he0]
      have he' : ¬ at' s j = 93 := he0
      refine r_fun Tryd.func46 rfl Tryd.ntmps46 Tryd.results46 rfl (rjD_free _) fun X hL hX => ?_
      repeat' (first |refine r_valA (t := 38) rfl rfl (le_ rfl) ?_|refine r_valA (t := 135) rfl rfl (le_ rfl) ?_|refine r_call (f := 29) rfl rfl Tryd.call29 rfl c0 ?_|with_reducible (first |refine t_seq ?_|refine t_region ?_|refine c_nil ?_|refine n_then ?_|refine t_ret ?_|refine t_skip ?_|refine t_exit ?_|refine t_block ?_|refine n_block ?_|refine e_then ?_|refine x_then ?_|refine x_block ?_|refine t_draw ?_)|refine r_val rfl rfl True.intro ?_|refine r_gskip rfl rfl rfl ?_|refine r_gskip2 rfl rfl rfl ?_|refine r_gval rfl rfl rfl rfl True.intro ?_|refine t_true rfl ?_|refine t_false rfl ?_|((first |refine t_cond_d rfl ?_ ?_|refine t_cond_i rfl ?_ ?_|refine t_cond_j rfl ?_ ?_|refine t_cond_s rfl ?_ ?_|refine t_cond_n rfl ?_ ?_|refine t_cond rfl ?_ ?_|refine c_split_d rfl rfl ?_ ?_|refine c_split_i rfl rfl ?_ ?_|refine c_split_j rfl rfl ?_ ?_|refine c_split_s rfl rfl ?_ ?_|refine c_split_n rfl rfl ?_ ?_)<;>intro<;>try (first |(rename_i hz;first |exact tf_ hz|exact ft_ hz)|(exfalso;omega)))|((first |refine r_val rfl rfl ?_ ?_|refine r_gval rfl rfl rfl rfl ?_ ?_|refine r_obj rfl rfl ?_ ?_|refine r_sto rfl ?_ ?_|refine r_gobj rfl rfl rfl rfl ?_ ?_);focus (first |omega|exact le_ rfl|((repeat first |rw [wrap_u8]|rw [IntKind.wrap_i64]|rw [IntKind.wrap_i32]|rw [wrap_u32']|rw [wrap_u64']);(repeat' refine And.intro ?_ ?_)<;>omega)|((repeat' refine And.intro ?_ ?_)<;>first |omega|rfl|exact Nat.le_refl _|exact le_ rfl|exact bytesF_one _)|(simp_all;done)|(simp_all;omega)))|refine e_hit rfl ?_|refine e_miss rfl ?_|with_reducible refine ⟨by kernel_rfl, ?_⟩|refine x_endw rfl ?_|((with_reducible refine c_grd ?_);(fail_if_success (refine c_lit true rfl rfl rfl ?_));(fail_if_success (refine c_lit false rfl rfl rfl ?_));refine c_split rfl rfl (fun _ => ?_) (fun _ => ?_)))
      refine T.adoptV 9 6 100 28 8 _ (jF []) rfl rfl rfl ?_
      refine T.adoptV 9 7 101 9 1 _ (txF []) rfl rfl rfl ?_
      refine T.loop hL (fun x : Nat × List J × List (List UInt8) => [(0, .s s), (1, .i .i64 (x.1 : Nat)), (2, .i .i64 (d + 1 : Nat)), (6, .pv 6 0), (7, .i .i64 0), (8, .i .i64 0), (9, .pv 9 0), (10, .i .u8 (endM false))]) (fun x => [(6, .var j0C), (9, .var [.i .i64 (kindM false), .b false, .b false, .s [], .i .i64 0, .s [], .gs 100 8 (x.2.1).length (jF (x.2.1)), .gs 101 1 (x.2.2).length (txF (x.2.2))]), (100, .row 28 8 (x.2.1).length), (101, .row 9 1 (x.2.2).length)])
        (fun x => x.1 ≤ s.length ∧ jgo s val false j [] [] = jgo s val false x.1 x.2.1 x.2.2 ∧ x.2.1.length ≤ x.1 ∧ x.2.2.length ≤ x.1) (fun x => s.length - x.1) (j, [], []) ⟨by omega, rfl, Nat.zero_le _, Nat.zero_le _⟩
        ⟨⟨rfl, rfl, rfl, rfl, rfl, rfl, rfl, rfl, trivial⟩, ⟨rfl, rfl, rfl, rfl, trivial⟩, rfl, fun q hq => by rw [hX] at hq; cases hq⟩ ?_
      clear hst c0 hle hi
      rintro ⟨i, l, ks⟩ ⟨hi, hI, hl, hks⟩
      dsimp only at hi hI hl hks ⊢
      rw [hI, jgo_eq hv hi]
      clear hI
      unfold jkeys
      rw [if_neg Bool.false_ne_true]
      dsimp only
      have q1 : i ≤ i ∧ i ≤ s.length := ⟨Nat.le_refl _, hi⟩
      have v1 := hval i q1.2
      rw [← hd1] at v1
      have q2 := hv i
      have q3 := he i
      clear hval hv he
      cases h2 : val i with
      | inr e =>
        obtain ⟨p, e⟩ := e
        have q3 := q3 p e h2
        rw [h2] at v1
        unfold rjD at v1
        dsimp only at v1
        rw [jC_j0] at v1
        replace v1 : Ctr Tryd.prog 28 [.s s, .i .i64 (i : Int), .i .i64 (((d + 1 : Nat) : Int) - 1)] _ := v1
        repeat' (first |refine r_valA (t := 38) rfl rfl (le_ rfl) ?_|refine r_valA (t := 135) rfl rfl (le_ rfl) ?_|refine r_call (f := 28) rfl rfl Tryd.call28 rfl v1 ?_|with_reducible (first |refine t_seq ?_|refine t_region ?_|refine c_nil ?_|refine n_then ?_|refine t_ret ?_|refine t_skip ?_|refine t_exit ?_|refine t_block ?_|refine n_block ?_|refine e_then ?_|refine x_then ?_|refine x_block ?_|refine t_draw ?_)|refine r_val rfl rfl True.intro ?_|refine r_gskip rfl rfl rfl ?_|refine r_gskip2 rfl rfl rfl ?_|refine r_gval rfl rfl rfl rfl True.intro ?_|refine t_true rfl ?_|refine t_false rfl ?_|((first |refine t_cond_d rfl ?_ ?_|refine t_cond_i rfl ?_ ?_|refine t_cond_j rfl ?_ ?_|refine t_cond_s rfl ?_ ?_|refine t_cond_n rfl ?_ ?_|refine t_cond rfl ?_ ?_|refine c_split_d rfl rfl ?_ ?_|refine c_split_i rfl rfl ?_ ?_|refine c_split_j rfl rfl ?_ ?_|refine c_split_s rfl rfl ?_ ?_|refine c_split_n rfl rfl ?_ ?_)<;>intro<;>try (first |(rename_i hz;first |exact tf_ hz|exact ft_ hz)|(exfalso;omega)))|((first |refine r_val rfl rfl ?_ ?_|refine r_gval rfl rfl rfl rfl ?_ ?_|refine r_obj rfl rfl ?_ ?_|refine r_sto rfl ?_ ?_|refine r_gobj rfl rfl rfl rfl ?_ ?_);focus (first |omega|exact le_ rfl|((repeat first |rw [wrap_u8]|rw [IntKind.wrap_i64]|rw [IntKind.wrap_i32]|rw [wrap_u32']|rw [wrap_u64']);(repeat' refine And.intro ?_ ?_)<;>omega)|((repeat' refine And.intro ?_ ?_)<;>first |omega|rfl|exact Nat.le_refl _|exact le_ rfl|exact bytesF_one _)|(simp_all;done)|(simp_all;omega)))|refine e_hit rfl ?_|refine e_miss rfl ?_|with_reducible refine ⟨by kernel_rfl, ?_⟩|refine x_endw rfl ?_|((with_reducible refine c_grd ?_);(fail_if_success (refine c_lit true rfl rfl rfl ?_));(fail_if_success (refine c_lit false rfl rfl rfl ?_));refine c_split rfl rfl (fun _ => ?_) (fun _ => ?_)))
        all_goals exact rj_err _ _
      | inl r =>
        obtain ⟨x, i2⟩ := r
        have q2 := q2 x i2 q1.2 h2
        rw [h2] at v1
        obtain ⟨xk, xy, xn, xd, xe, xt, xl, xs⟩ := x
        unfold rjD at v1
        dsimp only at v1
        rw [jC_mk] at v1
        replace v1 : Ctr Tryd.prog 28 [.s s, .i .i64 (i : Int), .i .i64 (((d + 1 : Nat) : Int) - 1)] _ := v1
        have e2 := catF_j l (.mk xk xy xn xd xe xt xl xs) (chunk 8 [.i .i64 xk, .b xy, .b xn, .s xd, .i .i64 xe, .s xt, .sl 8 xl.length (jF xl), .sl 1 xs.length (txF xs)]) (by rw [jC_mk]; rfl)
        generalize hX2 : J.mk xk xy xn xd xe xt xl xs = x at *
        have hl1 : (l ++ [x]).length = l.length + 1 := by simp
        clear h2 hX2 q3
        dsimp only
        have c3 := rskip_ctr s i2 (by omega) q2.2
        have hle3 := skN_le (s := s) (i := i2) q2.2
        try unfold jpeek
        generalize skN s i2 = i3 at *
        by_cases h3 : i3 < s.length
        rotate_left
        · rw [if_neg h3]
          repeat' (first |refine r_valA (t := 38) rfl rfl (le_ rfl) ?_|refine r_valA (t := 135) rfl rfl (le_ rfl) ?_|refine r_call (f := 28) rfl rfl Tryd.call28 rfl v1 ?_|refine r_call (f := 29) rfl rfl Tryd.call29 rfl c3 ?_|with_reducible (first |refine t_seq ?_|refine t_region ?_|refine c_nil ?_|refine n_then ?_|refine t_ret ?_|refine t_skip ?_|refine t_exit ?_|refine t_block ?_|refine n_block ?_|refine e_then ?_|refine x_then ?_|refine x_block ?_|refine t_draw ?_)|refine r_val rfl rfl True.intro ?_|refine r_gskip rfl rfl rfl ?_|refine r_gskip2 rfl rfl rfl ?_|refine r_gval rfl rfl rfl rfl True.intro ?_|refine t_true rfl ?_|refine t_false rfl ?_|((first |refine t_cond_d rfl ?_ ?_|refine t_cond_i rfl ?_ ?_|refine t_cond_j rfl ?_ ?_|refine t_cond_s rfl ?_ ?_|refine t_cond_n rfl ?_ ?_|refine t_cond rfl ?_ ?_|refine c_split_d rfl rfl ?_ ?_|refine c_split_i rfl rfl ?_ ?_|refine c_split_j rfl rfl ?_ ?_|refine c_split_s rfl rfl ?_ ?_|refine c_split_n rfl rfl ?_ ?_)<;>intro<;>try (first |(rename_i hz;first |exact tf_ hz|exact ft_ hz)|(exfalso;omega)))|((first |refine r_val rfl rfl ?_ ?_|refine r_gval rfl rfl rfl rfl ?_ ?_|refine r_obj rfl rfl ?_ ?_|refine r_sto rfl ?_ ?_|refine r_gobj rfl rfl rfl rfl ?_ ?_);focus (first |omega|exact le_ rfl|((repeat first |rw [wrap_u8]|rw [IntKind.wrap_i64]|rw [IntKind.wrap_i32]|rw [wrap_u32']|rw [wrap_u64']);(repeat' refine And.intro ?_ ?_)<;>omega)|((repeat' refine And.intro ?_ ?_)<;>first |omega|rfl|exact Nat.le_refl _|exact le_ rfl|exact bytesF_one _)|(simp_all;done)|(simp_all;omega)))|refine e_hit rfl ?_|refine e_miss rfl ?_|with_reducible refine ⟨by kernel_rfl, ?_⟩|refine x_endw rfl ?_|((with_reducible refine c_grd ?_);(fail_if_success (refine c_lit true rfl rfl rfl ?_));(fail_if_success (refine c_lit false rfl rfl rfl ?_));refine c_split rfl rfl (fun _ => ?_) (fun _ => ?_)))
          all_goals exact rj_err _ _
        rw [if_pos h3]
        dsimp only
        by_cases hen : at' s i3 = endM false
        · rw [if_pos hen]
          have hen' : at' s i3 = 93 := hen
          repeat' (first |refine r_valA (t := 38) rfl rfl (le_ rfl) ?_|refine r_valA (t := 135) rfl rfl (le_ rfl) ?_|refine r_call (f := 28) rfl rfl Tryd.call28 rfl v1 ?_|refine r_call (f := 29) rfl rfl Tryd.call29 rfl c3 ?_|with_reducible (first |refine t_seq ?_|refine t_region ?_|refine c_nil ?_|refine n_then ?_|refine t_ret ?_|refine t_skip ?_|refine t_exit ?_|refine t_block ?_|refine n_block ?_|refine e_then ?_|refine x_then ?_|refine x_block ?_|refine t_draw ?_)|refine r_val rfl rfl True.intro ?_|refine r_gskip rfl rfl rfl ?_|refine r_gskip2 rfl rfl rfl ?_|refine r_gval rfl rfl rfl rfl True.intro ?_|refine t_true rfl ?_|refine t_false rfl ?_|((first |refine t_cond_d rfl ?_ ?_|refine t_cond_i rfl ?_ ?_|refine t_cond_j rfl ?_ ?_|refine t_cond_s rfl ?_ ?_|refine t_cond_n rfl ?_ ?_|refine t_cond rfl ?_ ?_|refine c_split_d rfl rfl ?_ ?_|refine c_split_i rfl rfl ?_ ?_|refine c_split_j rfl rfl ?_ ?_|refine c_split_s rfl rfl ?_ ?_|refine c_split_n rfl rfl ?_ ?_)<;>intro<;>try (first |(rename_i hz;first |exact tf_ hz|exact ft_ hz)|(exfalso;omega)))|((first |refine r_val rfl rfl ?_ ?_|refine r_gval rfl rfl rfl rfl ?_ ?_|refine r_obj rfl rfl ?_ ?_|refine r_sto rfl ?_ ?_|refine r_gobj rfl rfl rfl rfl ?_ ?_);focus (first |omega|exact le_ rfl|((repeat first |rw [wrap_u8]|rw [IntKind.wrap_i64]|rw [IntKind.wrap_i32]|rw [wrap_u32']|rw [wrap_u64']);(repeat' refine And.intro ?_ ?_)<;>omega)|((repeat' refine And.intro ?_ ?_)<;>first |omega|rfl|exact Nat.le_refl _|exact le_ rfl|exact bytesF_one _)|(simp_all;done)|(simp_all;omega)))|refine e_hit rfl ?_|refine e_miss rfl ?_|with_reducible refine ⟨by kernel_rfl, ?_⟩|refine x_endw rfl ?_|((with_reducible refine c_grd ?_);(fail_if_success (refine c_lit true rfl rfl rfl ?_));(fail_if_success (refine c_lit false rfl rfl rfl ?_));refine c_split rfl rfl (fun _ => ?_) (fun _ => ?_)))
          all_goals exact .of_eq (by
            unfold rjD manyV
            dsimp only
            rw [jC_mk, hl1, ← e2]
            rfl)
        · rw [if_neg hen]
          have hen' : ¬ at' s i3 = 93 := hen
          by_cases hcm : at' s i3 = 44
          · rw [if_pos hcm]
            repeat' (first |refine r_valA (t := 38) rfl rfl (le_ rfl) ?_|refine r_valA (t := 135) rfl rfl (le_ rfl) ?_|refine r_call (f := 28) rfl rfl Tryd.call28 rfl v1 ?_|refine r_call (f := 29) rfl rfl Tryd.call29 rfl c3 ?_|with_reducible (first |refine t_seq ?_|refine t_region ?_|refine c_nil ?_|refine n_then ?_|refine t_ret ?_|refine t_skip ?_|refine t_exit ?_|refine t_block ?_|refine n_block ?_|refine e_then ?_|refine x_then ?_|refine x_block ?_|refine t_draw ?_)|refine r_val rfl rfl True.intro ?_|refine r_gskip rfl rfl rfl ?_|refine r_gskip2 rfl rfl rfl ?_|refine r_gval rfl rfl rfl rfl True.intro ?_|refine t_true rfl ?_|refine t_false rfl ?_|((first |refine t_cond_d rfl ?_ ?_|refine t_cond_i rfl ?_ ?_|refine t_cond_j rfl ?_ ?_|refine t_cond_s rfl ?_ ?_|refine t_cond_n rfl ?_ ?_|refine t_cond rfl ?_ ?_|refine c_split_d rfl rfl ?_ ?_|refine c_split_i rfl rfl ?_ ?_|refine c_split_j rfl rfl ?_ ?_|refine c_split_s rfl rfl ?_ ?_|refine c_split_n rfl rfl ?_ ?_)<;>intro<;>try (first |(rename_i hz;first |exact tf_ hz|exact ft_ hz)|(exfalso;omega)))|((first |refine r_val rfl rfl ?_ ?_|refine r_gval rfl rfl rfl rfl ?_ ?_|refine r_obj rfl rfl ?_ ?_|refine r_sto rfl ?_ ?_|refine r_gobj rfl rfl rfl rfl ?_ ?_);focus (first |omega|exact le_ rfl|((repeat first |rw [wrap_u8]|rw [IntKind.wrap_i64]|rw [IntKind.wrap_i32]|rw [wrap_u32']|rw [wrap_u64']);(repeat' refine And.intro ?_ ?_)<;>omega)|((repeat' refine And.intro ?_ ?_)<;>first |omega|rfl|exact Nat.le_refl _|exact le_ rfl|exact bytesF_one _)|(simp_all;done)|(simp_all;omega)))|refine e_hit rfl ?_|refine e_miss rfl ?_|with_reducible refine ⟨by kernel_rfl, ?_⟩|refine x_endw rfl ?_|((with_reducible refine c_grd ?_);(fail_if_success (refine c_lit true rfl rfl rfl ?_));(fail_if_success (refine c_lit false rfl rfl rfl ?_));refine c_split rfl rfl (fun _ => ?_) (fun _ => ?_)))
            all_goals exact ⟨(i3 + 1, l ++ [x], ks), ⟨by dsimp only; omega, rfl, by dsimp only; omega, by dsimp only; omega⟩, by dsimp only; omega, ⟨rfl, rfl, rfl, rfl, rfl, rfl, rfl, rfl, trivial⟩, ⟨rfl, (by rw [hl1, ← e2]; rfl), (by rw [hl1]; rfl), (by rfl), trivial⟩, rfl, fun q hq => by rw [hX] at hq; cases hq⟩
          · rw [if_neg hcm]
            repeat' (first |refine r_valA (t := 38) rfl rfl (le_ rfl) ?_|refine r_valA (t := 135) rfl rfl (le_ rfl) ?_|refine r_call (f := 28) rfl rfl Tryd.call28 rfl v1 ?_|refine r_call (f := 29) rfl rfl Tryd.call29 rfl c3 ?_|with_reducible (first |refine t_seq ?_|refine t_region ?_|refine c_nil ?_|refine n_then ?_|refine t_ret ?_|refine t_skip ?_|refine t_exit ?_|refine t_block ?_|refine n_block ?_|refine e_then ?_|refine x_then ?_|refine x_block ?_|refine t_draw ?_)|refine r_val rfl rfl True.intro ?_|refine r_gskip rfl rfl rfl ?_|refine r_gskip2 rfl rfl rfl ?_|refine r_gval rfl rfl rfl rfl True.intro ?_|refine t_true rfl ?_|refine t_false rfl ?_|((first |refine t_cond_d rfl ?_ ?_|refine t_cond_i rfl ?_ ?_|refine t_cond_j rfl ?_ ?_|refine t_cond_s rfl ?_ ?_|refine t_cond_n rfl ?_ ?_|refine t_cond rfl ?_ ?_|refine c_split_d rfl rfl ?_ ?_|refine c_split_i rfl rfl ?_ ?_|refine c_split_j rfl rfl ?_ ?_|refine c_split_s rfl rfl ?_ ?_|refine c_split_n rfl rfl ?_ ?_)<;>intro<;>try (first |(rename_i hz;first |exact tf_ hz|exact ft_ hz)|(exfalso;omega)))|((first |refine r_val rfl rfl ?_ ?_|refine r_gval rfl rfl rfl rfl ?_ ?_|refine r_obj rfl rfl ?_ ?_|refine r_sto rfl ?_ ?_|refine r_gobj rfl rfl rfl rfl ?_ ?_);focus (first |omega|exact le_ rfl|((repeat first |rw [wrap_u8]|rw [IntKind.wrap_i64]|rw [IntKind.wrap_i32]|rw [wrap_u32']|rw [wrap_u64']);(repeat' refine And.intro ?_ ?_)<;>omega)|((repeat' refine And.intro ?_ ?_)<;>first |omega|rfl|exact Nat.le_refl _|exact le_ rfl|exact bytesF_one _)|(simp_all;done)|(simp_all;omega)))|refine e_hit rfl ?_|refine e_miss rfl ?_|with_reducible refine ⟨by kernel_rfl, ?_⟩|refine x_endw rfl ?_|((with_reducible refine c_grd ?_);(fail_if_success (refine c_lit true rfl rfl rfl ?_));(fail_if_success (refine c_lit false rfl rfl rfl ?_));refine c_split rfl rfl (fun _ => ?_) (fun _ => ?_)))
            all_goals exact rj_err _ _
  · rw [if_neg hj]
    refine r_fun Tryd.func46 rfl Tryd.ntmps46 Tryd.results46 rfl (rjD_free _) fun X hL hX => ?_
    repeat' (first |refine r_valA (t := 38) rfl rfl (le_ rfl) ?_|refine r_valA (t := 135) rfl rfl (le_ rfl) ?_|refine r_call (f := 29) rfl rfl Tryd.call29 rfl c0 ?_|with_reducible (first |refine t_seq ?_|refine t_region ?_|refine c_nil ?_|refine n_then ?_|refine t_ret ?_|refine t_skip ?_|refine t_exit ?_|refine t_block ?_|refine n_block ?_|refine e_then ?_|refine x_then ?_|refine x_block ?_|refine t_draw ?_)|refine r_val rfl rfl True.intro ?_|refine r_gskip rfl rfl rfl ?_|refine r_gskip2 rfl rfl rfl ?_|refine r_gval rfl rfl rfl rfl True.intro ?_|refine t_true rfl ?_|refine t_false rfl ?_|((first |refine t_cond_d rfl ?_ ?_|refine t_cond_i rfl ?_ ?_|refine t_cond_j rfl ?_ ?_|refine t_cond_s rfl ?_ ?_|refine t_cond_n rfl ?_ ?_|refine t_cond rfl ?_ ?_|refine c_split_d rfl rfl ?_ ?_|refine c_split_i rfl rfl ?_ ?_|refine c_split_j rfl rfl ?_ ?_|refine c_split_s rfl rfl ?_ ?_|refine c_split_n rfl rfl ?_ ?_)<;>intro<;>try (first |(rename_i hz;first |exact tf_ hz|exact ft_ hz)|(exfalso;omega)))|((first |refine r_val rfl rfl ?_ ?_|refine r_gval rfl rfl rfl rfl ?_ ?_|refine r_obj rfl rfl ?_ ?_|refine r_sto rfl ?_ ?_|refine r_gobj rfl rfl rfl rfl ?_ ?_);focus (first |omega|exact le_ rfl|((repeat first |rw [wrap_u8]|rw [IntKind.wrap_i64]|rw [IntKind.wrap_i32]|rw [wrap_u32']|rw [wrap_u64']);(repeat' refine And.intro ?_ ?_)<;>omega)|((repeat' refine And.intro ?_ ?_)<;>first |omega|rfl|exact Nat.le_refl _|exact le_ rfl|exact bytesF_one _)|(simp_all;done)|(simp_all;omega)))|refine e_hit rfl ?_|refine e_miss rfl ?_|with_reducible refine ⟨by kernel_rfl, ?_⟩|refine x_endw rfl ?_|((with_reducible refine c_grd ?_);(fail_if_success (refine c_lit true rfl rfl rfl ?_));(fail_if_success (refine c_lit false rfl rfl rfl ?_));refine c_split rfl rfl (fun _ => ?_) (fun _ => ?_)))
    all_goals exact rj_err _ _

set_option maxRecDepth 100000 in
set_option maxHeartbeats 16000000 in
theorem rmany_true (s : List UInt8) (val : Nat → JR) (d : Nat) (hs : s.length ≤ 5000) (hd : d ≤ 100) (hv : ValOk s val) (he : ErrOk val) (hval : ∀ i, i ≤ s.length → Ctr Tryd.prog 28 [.s s, .i .i64 i, .i .i64 d] (rjD (val i))) (i : Nat) (hi : i < s.length) (hst : at' s i = 123) :
    Ctr Tryd.prog 46 [.s s, .i .i64 i, .i .i64 (d + 1 : Nat)] (rjD (jmany s val true i)) := by
  have hd1 : ((d + 1 : Nat) : Int) - 1 = d := by omega
  have c0 : Ctr Tryd.prog 29 [.s s, .i .i64 ((i : Int) + 1)] (.i .i64 (skN s (i + 1))) := rskip_ctr s (i + 1) (by omega) hi
  have hle := skN_le (s := s) (i := i + 1) hi
  unfold jmany jpeek
  generalize hji : skN s (i + 1) = j at *
  by_cases hj : j < s.length
  · rw [if_pos hj]
    dsimp only
    by_cases he0 : at' s j = endM true
    · rw [if_pos he0]
      have he' : at' s j = 125 := he0
      refine r_fun Tryd.func46 rfl Tryd.ntmps46 Tryd.results46 rfl (rjD_free _) fun X hL hX => ?_
      repeat' (first |refine r_valA (t := 38) rfl rfl (le_ rfl) ?_|refine r_valA (t := 135) rfl rfl (le_ rfl) ?_|refine r_call (f := 29) rfl rfl Tryd.call29 rfl c0 ?_|with_reducible (first |refine t_seq ?_|refine t_region ?_|refine c_nil ?_|refine n_then ?_|refine t_ret ?_|refine t_skip ?_|refine t_exit ?_|refine t_block ?_|refine n_block ?_|refine e_then ?_|refine x_then ?_|refine x_block ?_|refine t_draw ?_)|refine r_val rfl rfl True.intro ?_|refine r_gskip rfl rfl rfl ?_|refine r_gskip2 rfl rfl rfl ?_|refine r_gval rfl rfl rfl rfl True.intro ?_|refine t_true rfl ?_|refine t_false rfl ?_|((first |refine t_cond_d rfl ?_ ?_|refine t_cond_i rfl ?_ ?_|refine t_cond_j rfl ?_ ?_|refine t_cond_s rfl ?_ ?_|refine t_cond_n rfl ?_ ?_|refine t_cond rfl ?_ ?_|refine c_split_d rfl rfl ?_ ?_|refine c_split_i rfl rfl ?_ ?_|refine c_split_j rfl rfl ?_ ?_|refine c_split_s rfl rfl ?_ ?_|refine c_split_n rfl rfl ?_ ?_)<;>intro<;>try (first |(rename_i hz;first |exact tf_ hz|exact ft_ hz)|(exfalso;omega)))|((first |refine r_val rfl rfl ?_ ?_|refine r_gval rfl rfl rfl rfl ?_ ?_|refine r_obj rfl rfl ?_ ?_|refine r_sto rfl ?_ ?_|refine r_gobj rfl rfl rfl rfl ?_ ?_);focus (first |omega|exact le_ rfl|((repeat first |rw [wrap_u8]|rw [IntKind.wrap_i64]|rw [IntKind.wrap_i32]|rw [wrap_u32']|rw [wrap_u64']);(repeat' refine And.intro ?_ ?_)<;>omega)|((repeat' refine And.intro ?_ ?_)<;>first |omega|rfl|exact Nat.le_refl _|exact le_ rfl|exact bytesF_one _)|(simp_all;done)|(simp_all;omega)))|refine e_hit rfl ?_|refine e_miss rfl ?_|with_reducible refine ⟨by kernel_rfl, ?_⟩|refine x_endw rfl ?_|((with_reducible refine c_grd ?_);(fail_if_success (refine c_lit true rfl rfl rfl ?_));(fail_if_success (refine c_lit false rfl rfl rfl ?_));refine c_split rfl rfl (fun _ => ?_) (fun _ => ?_)))
      all_goals exact .tu3 (lit_weak (kindM true) false) (.of_eq (congrArg (D.i .i64) (by omega))) (.refl _)
    · rw [if_neg he0]
      have he' : ¬ at' s j = 125 := he0
      refine r_fun Tryd.func46 rfl Tryd.ntmps46 Tryd.results46 rfl (rjD_free _) fun X hL hX => ?_
      repeat' (first |refine r_valA (t := 38) rfl rfl (le_ rfl) ?_|refine r_valA (t := 135) rfl rfl (le_ rfl) ?_|refine r_call (f := 29) rfl rfl Tryd.call29 rfl c0 ?_|with_reducible (first |refine t_seq ?_|refine t_region ?_|refine c_nil ?_|refine n_then ?_|refine t_ret ?_|refine t_skip ?_|refine t_exit ?_|refine t_block ?_|refine n_block ?_|refine e_then ?_|refine x_then ?_|refine x_block ?_|refine t_draw ?_)|refine r_val rfl rfl True.intro ?_|refine r_gskip rfl rfl rfl ?_|refine r_gskip2 rfl rfl rfl ?_|refine r_gval rfl rfl rfl rfl True.intro ?_|refine t_true rfl ?_|refine t_false rfl ?_|((first |refine t_cond_d rfl ?_ ?_|refine t_cond_i rfl ?_ ?_|refine t_cond_j rfl ?_ ?_|refine t_cond_s rfl ?_ ?_|refine t_cond_n rfl ?_ ?_|refine t_cond rfl ?_ ?_|refine c_split_d rfl rfl ?_ ?_|refine c_split_i rfl rfl ?_ ?_|refine c_split_j rfl rfl ?_ ?_|refine c_split_s rfl rfl ?_ ?_|refine c_split_n rfl rfl ?_ ?_)<;>intro<;>try (first |(rename_i hz;first |exact tf_ hz|exact ft_ hz)|(exfalso;omega)))|((first |refine r_val rfl rfl ?_ ?_|refine r_gval rfl rfl rfl rfl ?_ ?_|refine r_obj rfl rfl ?_ ?_|refine r_sto rfl ?_ ?_|refine r_gobj rfl rfl rfl rfl ?_ ?_);focus (first |omega|exact le_ rfl|((repeat first |rw [wrap_u8]|rw [IntKind.wrap_i64]|rw [IntKind.wrap_i32]|rw [wrap_u32']|rw [wrap_u64']);(repeat' refine And.intro ?_ ?_)<;>omega)|((repeat' refine And.intro ?_ ?_)<;>first |omega|rfl|exact Nat.le_refl _|exact le_ rfl|exact bytesF_one _)|(simp_all;done)|(simp_all;omega)))|refine e_hit rfl ?_|refine e_miss rfl ?_|with_reducible refine ⟨by kernel_rfl, ?_⟩|refine x_endw rfl ?_|((with_reducible refine c_grd ?_);(fail_if_success (refine c_lit true rfl rfl rfl ?_));(fail_if_success (refine c_lit false rfl rfl rfl ?_));refine c_split rfl rfl (fun _ => ?_) (fun _ => ?_)))
      refine T.adoptV 9 6 100 28 8 _ (jF []) rfl rfl rfl ?_
      refine T.adoptV 9 7 101 9 1 _ (txF []) rfl rfl rfl ?_
      refine T.loop hL (fun x : Nat × List J × List (List UInt8) => [(0, .s s), (1, .i .i64 (x.1 : Nat)), (2, .i .i64 (d + 1 : Nat)), (6, .pv 6 0), (7, .i .i64 0), (8, .i .i64 0), (9, .pv 9 0), (10, .i .u8 (endM true))]) (fun x => [(6, .var j0C), (9, .var [.i .i64 (kindM true), .b false, .b false, .s [], .i .i64 0, .s [], .gs 100 8 (x.2.1).length (jF (x.2.1)), .gs 101 1 (x.2.2).length (txF (x.2.2))]), (100, .row 28 8 (x.2.1).length), (101, .row 9 1 (x.2.2).length)])
        (fun x => x.1 ≤ s.length ∧ jgo s val true j [] [] = jgo s val true x.1 x.2.1 x.2.2 ∧ x.2.1.length ≤ x.1 ∧ x.2.2.length ≤ x.1) (fun x => s.length - x.1) (j, [], []) ⟨by omega, rfl, Nat.zero_le _, Nat.zero_le _⟩
        ⟨⟨rfl, rfl, rfl, rfl, rfl, rfl, rfl, rfl, trivial⟩, ⟨rfl, rfl, rfl, rfl, trivial⟩, rfl, fun q hq => by rw [hX] at hq; cases hq⟩ ?_
      clear hst c0 hle hi
      rintro ⟨i, l, ks⟩ ⟨hi, hI, hl, hks⟩
      dsimp only at hi hI hl hks ⊢
      rw [hI, jgo_eq hv hi]
      clear hI
      unfold jkeys
      rw [if_pos rfl]
      have c1 := rskip_ctr s i (by omega) hi
      have hle := skN_le (s := s) (i := i) hi
      generalize hji : skN s i = j at *
      by_cases hj : j < s.length
      rotate_left
      · rw [jkey_short hji hj]
        repeat' (first |refine r_valA (t := 38) rfl rfl (le_ rfl) ?_|refine r_valA (t := 135) rfl rfl (le_ rfl) ?_|refine r_call (f := 29) rfl rfl Tryd.call29 rfl c1 ?_|with_reducible (first |refine t_seq ?_|refine t_region ?_|refine c_nil ?_|refine n_then ?_|refine t_ret ?_|refine t_skip ?_|refine t_exit ?_|refine t_block ?_|refine n_block ?_|refine e_then ?_|refine x_then ?_|refine x_block ?_|refine t_draw ?_)|refine r_val rfl rfl True.intro ?_|refine r_gskip rfl rfl rfl ?_|refine r_gskip2 rfl rfl rfl ?_|refine r_gval rfl rfl rfl rfl True.intro ?_|refine t_true rfl ?_|refine t_false rfl ?_|((first |refine t_cond_d rfl ?_ ?_|refine t_cond_i rfl ?_ ?_|refine t_cond_j rfl ?_ ?_|refine t_cond_s rfl ?_ ?_|refine t_cond_n rfl ?_ ?_|refine t_cond rfl ?_ ?_|refine c_split_d rfl rfl ?_ ?_|refine c_split_i rfl rfl ?_ ?_|refine c_split_j rfl rfl ?_ ?_|refine c_split_s rfl rfl ?_ ?_|refine c_split_n rfl rfl ?_ ?_)<;>intro<;>try (first |(rename_i hz;first |exact tf_ hz|exact ft_ hz)|(exfalso;omega)))|((first |refine r_val rfl rfl ?_ ?_|refine r_gval rfl rfl rfl rfl ?_ ?_|refine r_obj rfl rfl ?_ ?_|refine r_sto rfl ?_ ?_|refine r_gobj rfl rfl rfl rfl ?_ ?_);focus (first |omega|exact le_ rfl|((repeat first |rw [wrap_u8]|rw [IntKind.wrap_i64]|rw [IntKind.wrap_i32]|rw [wrap_u32']|rw [wrap_u64']);(repeat' refine And.intro ?_ ?_)<;>omega)|((repeat' refine And.intro ?_ ?_)<;>first |omega|rfl|exact Nat.le_refl _|exact le_ rfl|exact bytesF_one _)|(simp_all;done)|(simp_all;omega)))|refine e_hit rfl ?_|refine e_miss rfl ?_|with_reducible refine ⟨by kernel_rfl, ?_⟩|refine x_endw rfl ?_|((with_reducible refine c_grd ?_);(fail_if_success (refine c_lit true rfl rfl rfl ?_));(fail_if_success (refine c_lit false rfl rfl rfl ?_));refine c_split rfl rfl (fun _ => ?_) (fun _ => ?_)))
        all_goals exact rj_err _ _
      by_cases hq : at' s j = 34
      rotate_left
      · rw [jkey_quote hji hj hq]
        repeat' (first |refine r_valA (t := 38) rfl rfl (le_ rfl) ?_|refine r_valA (t := 135) rfl rfl (le_ rfl) ?_|refine r_call (f := 29) rfl rfl Tryd.call29 rfl c1 ?_|with_reducible (first |refine t_seq ?_|refine t_region ?_|refine c_nil ?_|refine n_then ?_|refine t_ret ?_|refine t_skip ?_|refine t_exit ?_|refine t_block ?_|refine n_block ?_|refine e_then ?_|refine x_then ?_|refine x_block ?_|refine t_draw ?_)|refine r_val rfl rfl True.intro ?_|refine r_gskip rfl rfl rfl ?_|refine r_gskip2 rfl rfl rfl ?_|refine r_gval rfl rfl rfl rfl True.intro ?_|refine t_true rfl ?_|refine t_false rfl ?_|((first |refine t_cond_d rfl ?_ ?_|refine t_cond_i rfl ?_ ?_|refine t_cond_j rfl ?_ ?_|refine t_cond_s rfl ?_ ?_|refine t_cond_n rfl ?_ ?_|refine t_cond rfl ?_ ?_|refine c_split_d rfl rfl ?_ ?_|refine c_split_i rfl rfl ?_ ?_|refine c_split_j rfl rfl ?_ ?_|refine c_split_s rfl rfl ?_ ?_|refine c_split_n rfl rfl ?_ ?_)<;>intro<;>try (first |(rename_i hz;first |exact tf_ hz|exact ft_ hz)|(exfalso;omega)))|((first |refine r_val rfl rfl ?_ ?_|refine r_gval rfl rfl rfl rfl ?_ ?_|refine r_obj rfl rfl ?_ ?_|refine r_sto rfl ?_ ?_|refine r_gobj rfl rfl rfl rfl ?_ ?_);focus (first |omega|exact le_ rfl|((repeat first |rw [wrap_u8]|rw [IntKind.wrap_i64]|rw [IntKind.wrap_i32]|rw [wrap_u32']|rw [wrap_u64']);(repeat' refine And.intro ?_ ?_)<;>omega)|((repeat' refine And.intro ?_ ?_)<;>first |omega|rfl|exact Nat.le_refl _|exact le_ rfl|exact bytesF_one _)|(simp_all;done)|(simp_all;omega)))|refine e_hit rfl ?_|refine e_miss rfl ?_|with_reducible refine ⟨by kernel_rfl, ?_⟩|refine x_endw rfl ?_|((with_reducible refine c_grd ?_);(fail_if_success (refine c_lit true rfl rfl rfl ?_));(fail_if_success (refine c_lit false rfl rfl rfl ?_));refine c_split rfl rfl (fun _ => ?_) (fun _ => ?_)))
        all_goals exact rj_err _ _
      have u1 := runq_ctr s j (by omega)
      have hn := @unq_next s j
      cases hR : unqF s j with
      | mk k R =>
      obtain ⟨n, e⟩ := R
      rw [hR] at u1 hn
      dsimp only at hn u1
      by_cases hez : e = 0
      rotate_left
      · rw [jkey_text hji hj hq hR hez]
        repeat' (first |refine r_valA (t := 38) rfl rfl (le_ rfl) ?_|refine r_valA (t := 135) rfl rfl (le_ rfl) ?_|refine r_call (f := 29) rfl rfl Tryd.call29 rfl c1 ?_|refine r_call (f := 45) rfl rfl Tryd.call45 rfl u1 ?_|with_reducible (first |refine t_seq ?_|refine t_region ?_|refine c_nil ?_|refine n_then ?_|refine t_ret ?_|refine t_skip ?_|refine t_exit ?_|refine t_block ?_|refine n_block ?_|refine e_then ?_|refine x_then ?_|refine x_block ?_|refine t_draw ?_)|refine r_val rfl rfl True.intro ?_|refine r_gskip rfl rfl rfl ?_|refine r_gskip2 rfl rfl rfl ?_|refine r_gval rfl rfl rfl rfl True.intro ?_|refine t_true rfl ?_|refine t_false rfl ?_|((first |refine t_cond_d rfl ?_ ?_|refine t_cond_i rfl ?_ ?_|refine t_cond_j rfl ?_ ?_|refine t_cond_s rfl ?_ ?_|refine t_cond_n rfl ?_ ?_|refine t_cond rfl ?_ ?_|refine c_split_d rfl rfl ?_ ?_|refine c_split_i rfl rfl ?_ ?_|refine c_split_j rfl rfl ?_ ?_|refine c_split_s rfl rfl ?_ ?_|refine c_split_n rfl rfl ?_ ?_)<;>intro<;>try (first |(rename_i hz;first |exact tf_ hz|exact ft_ hz)|(exfalso;omega)))|((first |refine r_val rfl rfl ?_ ?_|refine r_gval rfl rfl rfl rfl ?_ ?_|refine r_obj rfl rfl ?_ ?_|refine r_sto rfl ?_ ?_|refine r_gobj rfl rfl rfl rfl ?_ ?_);focus (first |omega|exact le_ rfl|((repeat first |rw [wrap_u8]|rw [IntKind.wrap_i64]|rw [IntKind.wrap_i32]|rw [wrap_u32']|rw [wrap_u64']);(repeat' refine And.intro ?_ ?_)<;>omega)|((repeat' refine And.intro ?_ ?_)<;>first |omega|rfl|exact Nat.le_refl _|exact le_ rfl|exact bytesF_one _)|(simp_all;done)|(simp_all;omega)))|refine e_hit rfl ?_|refine e_miss rfl ?_|with_reducible refine ⟨by kernel_rfl, ?_⟩|refine x_endw rfl ?_|((with_reducible refine c_grd ?_);(fail_if_success (refine c_lit true rfl rfl rfl ?_));(fail_if_success (refine c_lit false rfl rfl rfl ?_));refine c_split rfl rfl (fun _ => ?_) (fun _ => ?_)))
        all_goals exact rj_err _ _
      have hn := hn hez
      subst hez
      obtain ⟨n, rfl⟩ : ∃ n' : Nat, n = n' := ⟨n.toNat, by omega⟩
      rw [jkey_more hji hj hq hR]
      clear hR
      have p1 := rplace_ctr ks k (by omega)
      have hm := @idxJ_mem k ks
      by_cases hk : k ∈ ks
      · rw [if_pos hk]
        have hm := hm.1.2 hk
        repeat' (first |refine r_valA (t := 38) rfl rfl (le_ rfl) ?_|refine r_valA (t := 135) rfl rfl (le_ rfl) ?_|refine r_call (f := 29) rfl rfl Tryd.call29 rfl c1 ?_|refine r_call (f := 45) rfl rfl Tryd.call45 rfl u1 ?_|refine r_call (f := 32) rfl rfl Tryd.call32 rfl p1 ?_|with_reducible (first |refine t_seq ?_|refine t_region ?_|refine c_nil ?_|refine n_then ?_|refine t_ret ?_|refine t_skip ?_|refine t_exit ?_|refine t_block ?_|refine n_block ?_|refine e_then ?_|refine x_then ?_|refine x_block ?_|refine t_draw ?_)|refine r_val rfl rfl True.intro ?_|refine r_gskip rfl rfl rfl ?_|refine r_gskip2 rfl rfl rfl ?_|refine r_gval rfl rfl rfl rfl True.intro ?_|refine t_true rfl ?_|refine t_false rfl ?_|((first |refine t_cond_d rfl ?_ ?_|refine t_cond_i rfl ?_ ?_|refine t_cond_j rfl ?_ ?_|refine t_cond_s rfl ?_ ?_|refine t_cond_n rfl ?_ ?_|refine t_cond rfl ?_ ?_|refine c_split_d rfl rfl ?_ ?_|refine c_split_i rfl rfl ?_ ?_|refine c_split_j rfl rfl ?_ ?_|refine c_split_s rfl rfl ?_ ?_|refine c_split_n rfl rfl ?_ ?_)<;>intro<;>try (first |(rename_i hz;first |exact tf_ hz|exact ft_ hz)|(exfalso;omega)))|((first |refine r_val rfl rfl ?_ ?_|refine r_gval rfl rfl rfl rfl ?_ ?_|refine r_obj rfl rfl ?_ ?_|refine r_sto rfl ?_ ?_|refine r_gobj rfl rfl rfl rfl ?_ ?_);focus (first |omega|exact le_ rfl|((repeat first |rw [wrap_u8]|rw [IntKind.wrap_i64]|rw [IntKind.wrap_i32]|rw [wrap_u32']|rw [wrap_u64']);(repeat' refine And.intro ?_ ?_)<;>omega)|((repeat' refine And.intro ?_ ?_)<;>first |omega|rfl|exact Nat.le_refl _|exact le_ rfl|exact bytesF_one _)|(simp_all;done)|(simp_all;omega)))|refine e_hit rfl ?_|refine e_miss rfl ?_|with_reducible refine ⟨by kernel_rfl, ?_⟩|refine x_endw rfl ?_|((with_reducible refine c_grd ?_);(fail_if_success (refine c_lit true rfl rfl rfl ?_));(fail_if_success (refine c_lit false rfl rfl rfl ?_));refine c_split rfl rfl (fun _ => ?_) (fun _ => ?_)))
        all_goals exact rj_err _ _
      rw [if_neg hk]
      have hm : ¬ 0 ≤ idxJ k ks := fun q => hk (hm.1.1 q)
      generalize idxJ k ks = ix at *
      have c2 := rskip_ctr s n (by omega) (by omega)
      have hle2 := skN_le (s := s) (i := n) (by omega)
      unfold jpeek
      generalize skN s n = m at *
      by_cases hm2 : m < s.length
      rotate_left
      · rw [if_neg hm2]
        repeat' (first |refine r_valA (t := 38) rfl rfl (le_ rfl) ?_|refine r_valA (t := 135) rfl rfl (le_ rfl) ?_|refine r_call (f := 29) rfl rfl Tryd.call29 rfl c1 ?_|refine r_call (f := 45) rfl rfl Tryd.call45 rfl u1 ?_|refine r_call (f := 32) rfl rfl Tryd.call32 rfl p1 ?_|refine r_call (f := 29) rfl rfl Tryd.call29 rfl c2 ?_|with_reducible (first |refine t_seq ?_|refine t_region ?_|refine c_nil ?_|refine n_then ?_|refine t_ret ?_|refine t_skip ?_|refine t_exit ?_|refine t_block ?_|refine n_block ?_|refine e_then ?_|refine x_then ?_|refine x_block ?_|refine t_draw ?_)|refine r_val rfl rfl True.intro ?_|refine r_gskip rfl rfl rfl ?_|refine r_gskip2 rfl rfl rfl ?_|refine r_gval rfl rfl rfl rfl True.intro ?_|refine t_true rfl ?_|refine t_false rfl ?_|((first |refine t_cond_d rfl ?_ ?_|refine t_cond_i rfl ?_ ?_|refine t_cond_j rfl ?_ ?_|refine t_cond_s rfl ?_ ?_|refine t_cond_n rfl ?_ ?_|refine t_cond rfl ?_ ?_|refine c_split_d rfl rfl ?_ ?_|refine c_split_i rfl rfl ?_ ?_|refine c_split_j rfl rfl ?_ ?_|refine c_split_s rfl rfl ?_ ?_|refine c_split_n rfl rfl ?_ ?_)<;>intro<;>try (first |(rename_i hz;first |exact tf_ hz|exact ft_ hz)|(exfalso;omega)))|((first |refine r_val rfl rfl ?_ ?_|refine r_gval rfl rfl rfl rfl ?_ ?_|refine r_obj rfl rfl ?_ ?_|refine r_sto rfl ?_ ?_|refine r_gobj rfl rfl rfl rfl ?_ ?_);focus (first |omega|exact le_ rfl|((repeat first |rw [wrap_u8]|rw [IntKind.wrap_i64]|rw [IntKind.wrap_i32]|rw [wrap_u32']|rw [wrap_u64']);(repeat' refine And.intro ?_ ?_)<;>omega)|((repeat' refine And.intro ?_ ?_)<;>first |omega|rfl|exact Nat.le_refl _|exact le_ rfl|exact bytesF_one _)|(simp_all;done)|(simp_all;omega)))|refine e_hit rfl ?_|refine e_miss rfl ?_|with_reducible refine ⟨by kernel_rfl, ?_⟩|refine x_endw rfl ?_|((with_reducible refine c_grd ?_);(fail_if_success (refine c_lit true rfl rfl rfl ?_));(fail_if_success (refine c_lit false rfl rfl rfl ?_));refine c_split rfl rfl (fun _ => ?_) (fun _ => ?_)))
        all_goals exact rj_err _ _
      rw [if_pos hm2]
      dsimp only
      by_cases hco : at' s m = 58
      rotate_left
      · rw [if_pos hco]
        repeat' (first |refine r_valA (t := 38) rfl rfl (le_ rfl) ?_|refine r_valA (t := 135) rfl rfl (le_ rfl) ?_|refine r_call (f := 29) rfl rfl Tryd.call29 rfl c1 ?_|refine r_call (f := 45) rfl rfl Tryd.call45 rfl u1 ?_|refine r_call (f := 32) rfl rfl Tryd.call32 rfl p1 ?_|refine r_call (f := 29) rfl rfl Tryd.call29 rfl c2 ?_|with_reducible (first |refine t_seq ?_|refine t_region ?_|refine c_nil ?_|refine n_then ?_|refine t_ret ?_|refine t_skip ?_|refine t_exit ?_|refine t_block ?_|refine n_block ?_|refine e_then ?_|refine x_then ?_|refine x_block ?_|refine t_draw ?_)|refine r_val rfl rfl True.intro ?_|refine r_gskip rfl rfl rfl ?_|refine r_gskip2 rfl rfl rfl ?_|refine r_gval rfl rfl rfl rfl True.intro ?_|refine t_true rfl ?_|refine t_false rfl ?_|((first |refine t_cond_d rfl ?_ ?_|refine t_cond_i rfl ?_ ?_|refine t_cond_j rfl ?_ ?_|refine t_cond_s rfl ?_ ?_|refine t_cond_n rfl ?_ ?_|refine t_cond rfl ?_ ?_|refine c_split_d rfl rfl ?_ ?_|refine c_split_i rfl rfl ?_ ?_|refine c_split_j rfl rfl ?_ ?_|refine c_split_s rfl rfl ?_ ?_|refine c_split_n rfl rfl ?_ ?_)<;>intro<;>try (first |(rename_i hz;first |exact tf_ hz|exact ft_ hz)|(exfalso;omega)))|((first |refine r_val rfl rfl ?_ ?_|refine r_gval rfl rfl rfl rfl ?_ ?_|refine r_obj rfl rfl ?_ ?_|refine r_sto rfl ?_ ?_|refine r_gobj rfl rfl rfl rfl ?_ ?_);focus (first |omega|exact le_ rfl|((repeat first |rw [wrap_u8]|rw [IntKind.wrap_i64]|rw [IntKind.wrap_i32]|rw [wrap_u32']|rw [wrap_u64']);(repeat' refine And.intro ?_ ?_)<;>omega)|((repeat' refine And.intro ?_ ?_)<;>first |omega|rfl|exact Nat.le_refl _|exact le_ rfl|exact bytesF_one _)|(simp_all;done)|(simp_all;omega)))|refine e_hit rfl ?_|refine e_miss rfl ?_|with_reducible refine ⟨by kernel_rfl, ?_⟩|refine x_endw rfl ?_|((with_reducible refine c_grd ?_);(fail_if_success (refine c_lit true rfl rfl rfl ?_));(fail_if_success (refine c_lit false rfl rfl rfl ?_));refine c_split rfl rfl (fun _ => ?_) (fun _ => ?_)))
        all_goals exact rj_err _ _
      rw [if_neg (fun q => q hco)]
      dsimp only
      have q1 : i ≤ m + 1 ∧ m + 1 ≤ s.length := by omega
      have e1 := catF_tx ks k (chunk 1 [.s k]) rfl
      have hk1 : (ks ++ [k]).length = ks.length + 1 := by simp
      have v1 := hval (m + 1) q1.2
      rw [← hd1] at v1
      have q2 := hv (m + 1)
      have q3 := he (m + 1)
      clear hval hv he
      cases h2 : val (m + 1) with
      | inr e =>
        obtain ⟨p, e⟩ := e
        have q3 := q3 p e h2
        rw [h2] at v1
        unfold rjD at v1
        dsimp only at v1
        rw [jC_j0] at v1
        replace v1 : Ctr Tryd.prog 28 [.s s, .i .i64 ((m : Int) + 1), .i .i64 (((d + 1 : Nat) : Int) - 1)] _ := v1
        repeat' (first |refine r_valA (t := 38) rfl rfl (le_ rfl) ?_|refine r_valA (t := 135) rfl rfl (le_ rfl) ?_|refine r_call (f := 29) rfl rfl Tryd.call29 rfl c1 ?_|refine r_call (f := 45) rfl rfl Tryd.call45 rfl u1 ?_|refine r_call (f := 32) rfl rfl Tryd.call32 rfl p1 ?_|refine r_call (f := 29) rfl rfl Tryd.call29 rfl c2 ?_|refine r_call (f := 28) rfl rfl Tryd.call28 rfl v1 ?_|with_reducible (first |refine t_seq ?_|refine t_region ?_|refine c_nil ?_|refine n_then ?_|refine t_ret ?_|refine t_skip ?_|refine t_exit ?_|refine t_block ?_|refine n_block ?_|refine e_then ?_|refine x_then ?_|refine x_block ?_|refine t_draw ?_)|refine r_val rfl rfl True.intro ?_|refine r_gskip rfl rfl rfl ?_|refine r_gskip2 rfl rfl rfl ?_|refine r_gval rfl rfl rfl rfl True.intro ?_|refine t_true rfl ?_|refine t_false rfl ?_|((first |refine t_cond_d rfl ?_ ?_|refine t_cond_i rfl ?_ ?_|refine t_cond_j rfl ?_ ?_|refine t_cond_s rfl ?_ ?_|refine t_cond_n rfl ?_ ?_|refine t_cond rfl ?_ ?_|refine c_split_d rfl rfl ?_ ?_|refine c_split_i rfl rfl ?_ ?_|refine c_split_j rfl rfl ?_ ?_|refine c_split_s rfl rfl ?_ ?_|refine c_split_n rfl rfl ?_ ?_)<;>intro<;>try (first |(rename_i hz;first |exact tf_ hz|exact ft_ hz)|(exfalso;omega)))|((first |refine r_val rfl rfl ?_ ?_|refine r_gval rfl rfl rfl rfl ?_ ?_|refine r_obj rfl rfl ?_ ?_|refine r_sto rfl ?_ ?_|refine r_gobj rfl rfl rfl rfl ?_ ?_);focus (first |omega|exact le_ rfl|((repeat first |rw [wrap_u8]|rw [IntKind.wrap_i64]|rw [IntKind.wrap_i32]|rw [wrap_u32']|rw [wrap_u64']);(repeat' refine And.intro ?_ ?_)<;>omega)|((repeat' refine And.intro ?_ ?_)<;>first |omega|rfl|exact Nat.le_refl _|exact le_ rfl|exact bytesF_one _)|(simp_all;done)|(simp_all;omega)))|refine e_hit rfl ?_|refine e_miss rfl ?_|with_reducible refine ⟨by kernel_rfl, ?_⟩|refine x_endw rfl ?_|((with_reducible refine c_grd ?_);(fail_if_success (refine c_lit true rfl rfl rfl ?_));(fail_if_success (refine c_lit false rfl rfl rfl ?_));refine c_split rfl rfl (fun _ => ?_) (fun _ => ?_)))
        all_goals exact rj_err _ _
      | inl r =>
        obtain ⟨x, i2⟩ := r
        have q2 := q2 x i2 q1.2 h2
        rw [h2] at v1
        obtain ⟨xk, xy, xn, xd, xe, xt, xl, xs⟩ := x
        unfold rjD at v1
        dsimp only at v1
        rw [jC_mk] at v1
        replace v1 : Ctr Tryd.prog 28 [.s s, .i .i64 ((m : Int) + 1), .i .i64 (((d + 1 : Nat) : Int) - 1)] _ := v1
        have e2 := catF_j l (.mk xk xy xn xd xe xt xl xs) (chunk 8 [.i .i64 xk, .b xy, .b xn, .s xd, .i .i64 xe, .s xt, .sl 8 xl.length (jF xl), .sl 1 xs.length (txF xs)]) (by rw [jC_mk]; rfl)
        generalize hX2 : J.mk xk xy xn xd xe xt xl xs = x at *
        have hl1 : (l ++ [x]).length = l.length + 1 := by simp
        clear h2 hX2 q3
        dsimp only
        have c3 := rskip_ctr s i2 (by omega) q2.2
        have hle3 := skN_le (s := s) (i := i2) q2.2
        try unfold jpeek
        generalize skN s i2 = i3 at *
        by_cases h3 : i3 < s.length
        rotate_left
        · rw [if_neg h3]
          repeat' (first |refine r_valA (t := 38) rfl rfl (le_ rfl) ?_|refine r_valA (t := 135) rfl rfl (le_ rfl) ?_|refine r_call (f := 29) rfl rfl Tryd.call29 rfl c1 ?_|refine r_call (f := 45) rfl rfl Tryd.call45 rfl u1 ?_|refine r_call (f := 32) rfl rfl Tryd.call32 rfl p1 ?_|refine r_call (f := 29) rfl rfl Tryd.call29 rfl c2 ?_|refine r_call (f := 28) rfl rfl Tryd.call28 rfl v1 ?_|refine r_call (f := 29) rfl rfl Tryd.call29 rfl c3 ?_|with_reducible (first |refine t_seq ?_|refine t_region ?_|refine c_nil ?_|refine n_then ?_|refine t_ret ?_|refine t_skip ?_|refine t_exit ?_|refine t_block ?_|refine n_block ?_|refine e_then ?_|refine x_then ?_|refine x_block ?_|refine t_draw ?_)|refine r_val rfl rfl True.intro ?_|refine r_gskip rfl rfl rfl ?_|refine r_gskip2 rfl rfl rfl ?_|refine r_gval rfl rfl rfl rfl True.intro ?_|refine t_true rfl ?_|refine t_false rfl ?_|((first |refine t_cond_d rfl ?_ ?_|refine t_cond_i rfl ?_ ?_|refine t_cond_j rfl ?_ ?_|refine t_cond_s rfl ?_ ?_|refine t_cond_n rfl ?_ ?_|refine t_cond rfl ?_ ?_|refine c_split_d rfl rfl ?_ ?_|refine c_split_i rfl rfl ?_ ?_|refine c_split_j rfl rfl ?_ ?_|refine c_split_s rfl rfl ?_ ?_|refine c_split_n rfl rfl ?_ ?_)<;>intro<;>try (first |(rename_i hz;first |exact tf_ hz|exact ft_ hz)|(exfalso;omega)))|((first |refine r_val rfl rfl ?_ ?_|refine r_gval rfl rfl rfl rfl ?_ ?_|refine r_obj rfl rfl ?_ ?_|refine r_sto rfl ?_ ?_|refine r_gobj rfl rfl rfl rfl ?_ ?_);focus (first |omega|exact le_ rfl|((repeat first |rw [wrap_u8]|rw [IntKind.wrap_i64]|rw [IntKind.wrap_i32]|rw [wrap_u32']|rw [wrap_u64']);(repeat' refine And.intro ?_ ?_)<;>omega)|((repeat' refine And.intro ?_ ?_)<;>first |omega|rfl|exact Nat.le_refl _|exact le_ rfl|exact bytesF_one _)|(simp_all;done)|(simp_all;omega)))|refine e_hit rfl ?_|refine e_miss rfl ?_|with_reducible refine ⟨by kernel_rfl, ?_⟩|refine x_endw rfl ?_|((with_reducible refine c_grd ?_);(fail_if_success (refine c_lit true rfl rfl rfl ?_));(fail_if_success (refine c_lit false rfl rfl rfl ?_));refine c_split rfl rfl (fun _ => ?_) (fun _ => ?_)))
          all_goals exact rj_err _ _
        rw [if_pos h3]
        dsimp only
        by_cases hen : at' s i3 = endM true
        · rw [if_pos hen]
          have hen' : at' s i3 = 125 := hen
          repeat' (first |refine r_valA (t := 38) rfl rfl (le_ rfl) ?_|refine r_valA (t := 135) rfl rfl (le_ rfl) ?_|refine r_call (f := 29) rfl rfl Tryd.call29 rfl c1 ?_|refine r_call (f := 45) rfl rfl Tryd.call45 rfl u1 ?_|refine r_call (f := 32) rfl rfl Tryd.call32 rfl p1 ?_|refine r_call (f := 29) rfl rfl Tryd.call29 rfl c2 ?_|refine r_call (f := 28) rfl rfl Tryd.call28 rfl v1 ?_|refine r_call (f := 29) rfl rfl Tryd.call29 rfl c3 ?_|with_reducible (first |refine t_seq ?_|refine t_region ?_|refine c_nil ?_|refine n_then ?_|refine t_ret ?_|refine t_skip ?_|refine t_exit ?_|refine t_block ?_|refine n_block ?_|refine e_then ?_|refine x_then ?_|refine x_block ?_|refine t_draw ?_)|refine r_val rfl rfl True.intro ?_|refine r_gskip rfl rfl rfl ?_|refine r_gskip2 rfl rfl rfl ?_|refine r_gval rfl rfl rfl rfl True.intro ?_|refine t_true rfl ?_|refine t_false rfl ?_|((first |refine t_cond_d rfl ?_ ?_|refine t_cond_i rfl ?_ ?_|refine t_cond_j rfl ?_ ?_|refine t_cond_s rfl ?_ ?_|refine t_cond_n rfl ?_ ?_|refine t_cond rfl ?_ ?_|refine c_split_d rfl rfl ?_ ?_|refine c_split_i rfl rfl ?_ ?_|refine c_split_j rfl rfl ?_ ?_|refine c_split_s rfl rfl ?_ ?_|refine c_split_n rfl rfl ?_ ?_)<;>intro<;>try (first |(rename_i hz;first |exact tf_ hz|exact ft_ hz)|(exfalso;omega)))|((first |refine r_val rfl rfl ?_ ?_|refine r_gval rfl rfl rfl rfl ?_ ?_|refine r_obj rfl rfl ?_ ?_|refine r_sto rfl ?_ ?_|refine r_gobj rfl rfl rfl rfl ?_ ?_);focus (first |omega|exact le_ rfl|((repeat first |rw [wrap_u8]|rw [IntKind.wrap_i64]|rw [IntKind.wrap_i32]|rw [wrap_u32']|rw [wrap_u64']);(repeat' refine And.intro ?_ ?_)<;>omega)|((repeat' refine And.intro ?_ ?_)<;>first |omega|rfl|exact Nat.le_refl _|exact le_ rfl|exact bytesF_one _)|(simp_all;done)|(simp_all;omega)))|refine e_hit rfl ?_|refine e_miss rfl ?_|with_reducible refine ⟨by kernel_rfl, ?_⟩|refine x_endw rfl ?_|((with_reducible refine c_grd ?_);(fail_if_success (refine c_lit true rfl rfl rfl ?_));(fail_if_success (refine c_lit false rfl rfl rfl ?_));refine c_split rfl rfl (fun _ => ?_) (fun _ => ?_)))
          all_goals exact .of_eq (by
            unfold rjD manyV
            dsimp only
            rw [jC_mk, hl1, hk1, ← e1, ← e2]
            rfl)
        · rw [if_neg hen]
          have hen' : ¬ at' s i3 = 125 := hen
          by_cases hcm : at' s i3 = 44
          · rw [if_pos hcm]
            repeat' (first |refine r_valA (t := 38) rfl rfl (le_ rfl) ?_|refine r_valA (t := 135) rfl rfl (le_ rfl) ?_|refine r_call (f := 29) rfl rfl Tryd.call29 rfl c1 ?_|refine r_call (f := 45) rfl rfl Tryd.call45 rfl u1 ?_|refine r_call (f := 32) rfl rfl Tryd.call32 rfl p1 ?_|refine r_call (f := 29) rfl rfl Tryd.call29 rfl c2 ?_|refine r_call (f := 28) rfl rfl Tryd.call28 rfl v1 ?_|refine r_call (f := 29) rfl rfl Tryd.call29 rfl c3 ?_|with_reducible (first |refine t_seq ?_|refine t_region ?_|refine c_nil ?_|refine n_then ?_|refine t_ret ?_|refine t_skip ?_|refine t_exit ?_|refine t_block ?_|refine n_block ?_|refine e_then ?_|refine x_then ?_|refine x_block ?_|refine t_draw ?_)|refine r_val rfl rfl True.intro ?_|refine r_gskip rfl rfl rfl ?_|refine r_gskip2 rfl rfl rfl ?_|refine r_gval rfl rfl rfl rfl True.intro ?_|refine t_true rfl ?_|refine t_false rfl ?_|((first |refine t_cond_d rfl ?_ ?_|refine t_cond_i rfl ?_ ?_|refine t_cond_j rfl ?_ ?_|refine t_cond_s rfl ?_ ?_|refine t_cond_n rfl ?_ ?_|refine t_cond rfl ?_ ?_|refine c_split_d rfl rfl ?_ ?_|refine c_split_i rfl rfl ?_ ?_|refine c_split_j rfl rfl ?_ ?_|refine c_split_s rfl rfl ?_ ?_|refine c_split_n rfl rfl ?_ ?_)<;>intro<;>try (first |(rename_i hz;first |exact tf_ hz|exact ft_ hz)|(exfalso;omega)))|((first |refine r_val rfl rfl ?_ ?_|refine r_gval rfl rfl rfl rfl ?_ ?_|refine r_obj rfl rfl ?_ ?_|refine r_sto rfl ?_ ?_|refine r_gobj rfl rfl rfl rfl ?_ ?_);focus (first |omega|exact le_ rfl|((repeat first |rw [wrap_u8]|rw [IntKind.wrap_i64]|rw [IntKind.wrap_i32]|rw [wrap_u32']|rw [wrap_u64']);(repeat' refine And.intro ?_ ?_)<;>omega)|((repeat' refine And.intro ?_ ?_)<;>first |omega|rfl|exact Nat.le_refl _|exact le_ rfl|exact bytesF_one _)|(simp_all;done)|(simp_all;omega)))|refine e_hit rfl ?_|refine e_miss rfl ?_|with_reducible refine ⟨by kernel_rfl, ?_⟩|refine x_endw rfl ?_|((with_reducible refine c_grd ?_);(fail_if_success (refine c_lit true rfl rfl rfl ?_));(fail_if_success (refine c_lit false rfl rfl rfl ?_));refine c_split rfl rfl (fun _ => ?_) (fun _ => ?_)))
            all_goals exact ⟨(i3 + 1, l ++ [x], (ks ++ [k])), ⟨by dsimp only; omega, rfl, by dsimp only; omega, by dsimp only; omega⟩, by dsimp only; omega, ⟨rfl, rfl, rfl, rfl, rfl, rfl, rfl, rfl, trivial⟩, ⟨rfl, (by rw [hl1, hk1, ← e1, ← e2]; rfl), (by rw [hl1]; rfl), (by rw [hk1]; rfl), trivial⟩, rfl, fun q hq => by rw [hX] at hq; cases hq⟩
          · rw [if_neg hcm]
            repeat' (first |refine r_valA (t := 38) rfl rfl (le_ rfl) ?_|refine r_valA (t := 135) rfl rfl (le_ rfl) ?_|refine r_call (f := 29) rfl rfl Tryd.call29 rfl c1 ?_|refine r_call (f := 45) rfl rfl Tryd.call45 rfl u1 ?_|refine r_call (f := 32) rfl rfl Tryd.call32 rfl p1 ?_|refine r_call (f := 29) rfl rfl Tryd.call29 rfl c2 ?_|refine r_call (f := 28) rfl rfl Tryd.call28 rfl v1 ?_|refine r_call (f := 29) rfl rfl Tryd.call29 rfl c3 ?_|with_reducible (first |refine t_seq ?_|refine t_region ?_|refine c_nil ?_|refine n_then ?_|refine t_ret ?_|refine t_skip ?_|refine t_exit ?_|refine t_block ?_|refine n_block ?_|refine e_then ?_|refine x_then ?_|refine x_block ?_|refine t_draw ?_)|refine r_val rfl rfl True.intro ?_|refine r_gskip rfl rfl rfl ?_|refine r_gskip2 rfl rfl rfl ?_|refine r_gval rfl rfl rfl rfl True.intro ?_|refine t_true rfl ?_|refine t_false rfl ?_|((first |refine t_cond_d rfl ?_ ?_|refine t_cond_i rfl ?_ ?_|refine t_cond_j rfl ?_ ?_|refine t_cond_s rfl ?_ ?_|refine t_cond_n rfl ?_ ?_|refine t_cond rfl ?_ ?_|refine c_split_d rfl rfl ?_ ?_|refine c_split_i rfl rfl ?_ ?_|refine c_split_j rfl rfl ?_ ?_|refine c_split_s rfl rfl ?_ ?_|refine c_split_n rfl rfl ?_ ?_)<;>intro<;>try (first |(rename_i hz;first |exact tf_ hz|exact ft_ hz)|(exfalso;omega)))|((first |refine r_val rfl rfl ?_ ?_|refine r_gval rfl rfl rfl rfl ?_ ?_|refine r_obj rfl rfl ?_ ?_|refine r_sto rfl ?_ ?_|refine r_gobj rfl rfl rfl rfl ?_ ?_);focus (first |omega|exact le_ rfl|((repeat first |rw [wrap_u8]|rw [IntKind.wrap_i64]|rw [IntKind.wrap_i32]|rw [wrap_u32']|rw [wrap_u64']);(repeat' refine And.intro ?_ ?_)<;>omega)|((repeat' refine And.intro ?_ ?_)<;>first |omega|rfl|exact Nat.le_refl _|exact le_ rfl|exact bytesF_one _)|(simp_all;done)|(simp_all;omega)))|refine e_hit rfl ?_|refine e_miss rfl ?_|with_reducible refine ⟨by kernel_rfl, ?_⟩|refine x_endw rfl ?_|((with_reducible refine c_grd ?_);(fail_if_success (refine c_lit true rfl rfl rfl ?_));(fail_if_success (refine c_lit false rfl rfl rfl ?_));refine c_split rfl rfl (fun _ => ?_) (fun _ => ?_)))
            all_goals exact rj_err _ _
  · rw [if_neg hj]
    refine r_fun Tryd.func46 rfl Tryd.ntmps46 Tryd.results46 rfl (rjD_free _) fun X hL hX => ?_
    repeat' (first |refine r_valA (t := 38) rfl rfl (le_ rfl) ?_|refine r_valA (t := 135) rfl rfl (le_ rfl) ?_|refine r_call (f := 29) rfl rfl Tryd.call29 rfl c0 ?_|with_reducible (first |refine t_seq ?_|refine t_region ?_|refine c_nil ?_|refine n_then ?_|refine t_ret ?_|refine t_skip ?_|refine t_exit ?_|refine t_block ?_|refine n_block ?_|refine e_then ?_|refine x_then ?_|refine x_block ?_|refine t_draw ?_)|refine r_val rfl rfl True.intro ?_|refine r_gskip rfl rfl rfl ?_|refine r_gskip2 rfl rfl rfl ?_|refine r_gval rfl rfl rfl rfl True.intro ?_|refine t_true rfl ?_|refine t_false rfl ?_|((first |refine t_cond_d rfl ?_ ?_|refine t_cond_i rfl ?_ ?_|refine t_cond_j rfl ?_ ?_|refine t_cond_s rfl ?_ ?_|refine t_cond_n rfl ?_ ?_|refine t_cond rfl ?_ ?_|refine c_split_d rfl rfl ?_ ?_|refine c_split_i rfl rfl ?_ ?_|refine c_split_j rfl rfl ?_ ?_|refine c_split_s rfl rfl ?_ ?_|refine c_split_n rfl rfl ?_ ?_)<;>intro<;>try (first |(rename_i hz;first |exact tf_ hz|exact ft_ hz)|(exfalso;omega)))|((first |refine r_val rfl rfl ?_ ?_|refine r_gval rfl rfl rfl rfl ?_ ?_|refine r_obj rfl rfl ?_ ?_|refine r_sto rfl ?_ ?_|refine r_gobj rfl rfl rfl rfl ?_ ?_);focus (first |omega|exact le_ rfl|((repeat first |rw [wrap_u8]|rw [IntKind.wrap_i64]|rw [IntKind.wrap_i32]|rw [wrap_u32']|rw [wrap_u64']);(repeat' refine And.intro ?_ ?_)<;>omega)|((repeat' refine And.intro ?_ ?_)<;>first |omega|rfl|exact Nat.le_refl _|exact le_ rfl|exact bytesF_one _)|(simp_all;done)|(simp_all;omega)))|refine e_hit rfl ?_|refine e_miss rfl ?_|with_reducible refine ⟨by kernel_rfl, ?_⟩|refine x_endw rfl ?_|((with_reducible refine c_grd ?_);(fail_if_success (refine c_lit true rfl rfl rfl ?_));(fail_if_success (refine c_lit false rfl rfl rfl ?_));refine c_split rfl rfl (fun _ => ?_) (fun _ => ?_)))
    all_goals exact rj_err _ _

theorem rvalue_ctr (s : List UInt8) (hs : s.length ≤ 5000) : ∀ d : Nat, d ≤ 100 → ∀ i, i ≤ s.length → Ctr Tryd.prog 28 [.s s, .i .i64 i, .i .i64 d] (rjD (jval s d i)) := by
  intro d
  induction d with
  | zero => exact fun _ i hi => rvalue_zero s hs i hi
  | succ d ih =>
    intro hd i hi
    have ih := ih (by omega)
    exact rvalue_of s hs d (by omega) (fun j hj => ⟨fun h => rmany_false s _ d hs (by omega) (jval_ok s d) (jval_err s d) ih j hj h, fun h => rmany_true s _ d hs (by omega) (jval_ok s d) (jval_err s d) ih j hj h⟩) i hi

end Go.Proofs.YtbegohehjkjnmaaDoor.Flow
