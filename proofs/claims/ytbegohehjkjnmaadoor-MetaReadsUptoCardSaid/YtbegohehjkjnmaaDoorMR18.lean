/- The texts RJ5, one behind the other. -/
import Derived.Test.YtbegohehjkjnmaaDoorMR17
namespace Go.Proofs.YtbegohehjkjnmaaDoor.Flow
open Go

def valD : JR → Sum (D × Nat) (Nat × Int)
  | .inl (x, n) => .inl (.ag (jC x), n)
  | .inr e => .inr e
theorem jC_mk (k : Int) (y n : Bool) (d : List UInt8) (e : Int) (t : List UInt8) (l : List J) (ks : List (List UInt8)) : jC (.mk k y n d e t l ks) = [.i .i64 k, .b y, .b n, .s d, .i .i64 e, .s t, .sl 8 l.length (jF l), .sl 1 ks.length (txF ks)] := by
  unfold jC
  rfl
theorem many_weak (mp : Bool) : Weak (.ag (litC (kindM mp) false)) (.ag (jC (manyV mp [] []))) := lit_weak (kindM mp) false
theorem valD_ok {r : JR} : ∀ d n, valD r = .inl (d, n) → d.okIn [13] = true := fun d n h => by
  unfold valD at h
  split at h
  · rename_i x m
    cases h
    cases x
    rw [jC_mk]
    rfl
  · cases h

set_option maxRecDepth 100000 in
set_option maxHeartbeats 8000000 in
theorem many_true_jctr (s : List UInt8) (val : Nat → JR) (d : Nat) (hs : s.length ≤ 1048576) (hd : d ≤ 100) (hv : ValOk s val) (hval : ∀ i, i ≤ s.length → RdE 25 [.pv 13 0, .i .i64 d] s i (valD (val i))) (i : Nat) (hi : i < s.length) :
    RdE 42 [.pv 13 0, .ag (litC (kindM true) false), .i .u8 (endM true), .i .i64 (d + 1 : Nat)] s i (valD (jmany s val true i)) := by
  refine r_methR Tryd.func42 rfl Tryd.ntmps42 Tryd.results42 rfl valD_ok fun X hL hX => ?_
  have hd1 : ((d + 1 : Nat) : Int) - 1 = d := by omega
  have c0 : RdE 39 [.pv 13 0] s (i + 1) (peekD s (jpeek s (i + 1))) := jpeek_ctr s (i + 1) hs hi
  have p0 := @jpeek_ok s (i + 1)
  unfold jmany
  cases h0 : jpeek s (i + 1) with
  | inr e =>
    obtain ⟨p, e⟩ := e
    rw [h0] at c0
    have c0' : CtrP Tryd.prog 39 [.pv 13 0] [(13, .var [.s s, .i .i64 ((i : Int) + 1)])] (pvS p e) [(13, .gone)] := c0
    repeat' (first |(refine t_pan (id := 2) 1 ?_;dsimp only [splitOp])|refine p_lend1 13 rfl Tryd.call39 rfl rfl rfl rfl c0' ?_|with_reducible (first |refine t_seq ?_|refine t_region ?_|refine c_nil ?_|refine n_then ?_|refine t_ret ?_|refine t_skip ?_|refine t_exit ?_|refine t_block ?_|refine n_block ?_|refine e_then ?_|refine x_then ?_|refine x_block ?_|refine t_draw ?_)|refine r_val rfl rfl True.intro ?_|refine r_gskip rfl rfl rfl ?_|refine r_gskip2 rfl rfl rfl ?_|refine r_gval rfl rfl rfl rfl True.intro ?_|refine t_true rfl ?_|refine t_false rfl ?_|((first |refine t_cond_d rfl ?_ ?_|refine t_cond_i rfl ?_ ?_|refine t_cond_j rfl ?_ ?_|refine t_cond_s rfl ?_ ?_|refine t_cond_n rfl ?_ ?_|refine t_cond rfl ?_ ?_|refine c_split_d rfl rfl ?_ ?_|refine c_split_i rfl rfl ?_ ?_|refine c_split_j rfl rfl ?_ ?_|refine c_split_s rfl rfl ?_ ?_|refine c_split_n rfl rfl ?_ ?_)<;>intro<;>try (first |(rename_i hz;first |exact tf_ hz|exact ft_ hz)|(exfalso;omega)))|((first |refine r_val rfl rfl ?_ ?_|refine r_gval rfl rfl rfl rfl ?_ ?_|refine r_obj rfl rfl ?_ ?_|refine r_sto rfl ?_ ?_|refine r_gobj rfl rfl rfl rfl ?_ ?_);focus (first |omega|exact le_ rfl|((repeat first |rw [wrap_u8]|rw [IntKind.wrap_i64]|rw [IntKind.wrap_i32]|rw [wrap_u32']|rw [wrap_u64']);(repeat' refine And.intro ?_ ?_)<;>omega)|((repeat' refine And.intro ?_ ?_)<;>first |omega|rfl|exact Nat.le_refl _|exact le_ rfl|exact bytesF_one _)|(simp_all;done)|(simp_all;omega)))|refine e_hit rfl ?_|refine e_miss rfl ?_|with_reducible refine ⟨by kernel_rfl, ?_⟩|refine p_then ?_|refine p_block ?_|refine p_endR ⟨_, _, rfl, rfl, _, rfl⟩|((with_reducible refine c_grd ?_);(fail_if_success (refine c_lit true rfl rfl rfl ?_));(fail_if_success (refine c_lit false rfl rfl rfl ?_));refine c_split rfl rfl (fun _ => ?_) (fun _ => ?_)))
  | inl j =>
    rw [h0] at c0
    have c0' : CtrO Tryd.prog 39 [.pv 13 0] [(13, .var [.s s, .i .i64 ((i : Int) + 1)])] (.i .u8 (at' s j)) [(13, .var [.s s, .i .i64 j])] := c0
    have p0 := p0 hi h0
    dsimp only
    by_cases he : at' s j = endM true
    · rw [if_pos he]
      have he' : at' s j = 125 := he
      repeat' (first |refine r_lend1 (f := 39) 13 rfl rfl Tryd.call39 rfl rfl rfl rfl rfl c0' ?_|with_reducible (first |refine t_seq ?_|refine t_region ?_|refine c_nil ?_|refine n_then ?_|refine t_ret ?_|refine t_skip ?_|refine t_exit ?_|refine t_block ?_|refine n_block ?_|refine e_then ?_|refine x_then ?_|refine x_block ?_|refine t_draw ?_)|refine r_val rfl rfl True.intro ?_|refine r_gskip rfl rfl rfl ?_|refine r_gskip2 rfl rfl rfl ?_|refine r_gval rfl rfl rfl rfl True.intro ?_|refine t_true rfl ?_|refine t_false rfl ?_|((first |refine t_cond_d rfl ?_ ?_|refine t_cond_i rfl ?_ ?_|refine t_cond_j rfl ?_ ?_|refine t_cond_s rfl ?_ ?_|refine t_cond_n rfl ?_ ?_|refine t_cond rfl ?_ ?_|refine c_split_d rfl rfl ?_ ?_|refine c_split_i rfl rfl ?_ ?_|refine c_split_j rfl rfl ?_ ?_|refine c_split_s rfl rfl ?_ ?_|refine c_split_n rfl rfl ?_ ?_)<;>intro<;>try (first |(rename_i hz;first |exact tf_ hz|exact ft_ hz)|(exfalso;omega)))|((first |refine r_val rfl rfl ?_ ?_|refine r_gval rfl rfl rfl rfl ?_ ?_|refine r_obj rfl rfl ?_ ?_|refine r_sto rfl ?_ ?_|refine r_gobj rfl rfl rfl rfl ?_ ?_);focus (first |omega|exact le_ rfl|((repeat first |rw [wrap_u8]|rw [IntKind.wrap_i64]|rw [IntKind.wrap_i32]|rw [wrap_u32']|rw [wrap_u64']);(repeat' refine And.intro ?_ ?_)<;>omega)|((repeat' refine And.intro ?_ ?_)<;>first |omega|rfl|exact Nat.le_refl _|exact le_ rfl|exact bytesF_one _)|(simp_all;done)|(simp_all;omega)))|refine e_hit rfl ?_|refine e_miss rfl ?_|with_reducible refine ⟨by kernel_rfl, ?_⟩|refine x_endR rfl ⟨_, _, rfl, many_weak true, ?_⟩|refine n_endR rfl ⟨_, _, rfl, many_weak true, ?_⟩|((with_reducible refine c_grd ?_);(fail_if_success (refine c_lit true rfl rfl rfl ?_));(fail_if_success (refine c_lit false rfl rfl rfl ?_));refine c_split rfl rfl (fun _ => ?_) (fun _ => ?_)))
      all_goals exact congrArg (fun x => some (Own.var [.s s, .i .i64 x])) (by omega)
    · rw [if_neg he]
      have he' : ¬ at' s j = 125 := he
      repeat' (first |refine r_lend1 (f := 39) 13 rfl rfl Tryd.call39 rfl rfl rfl rfl rfl c0' ?_|with_reducible (first |refine t_seq ?_|refine t_region ?_|refine c_nil ?_|refine n_then ?_|refine t_ret ?_|refine t_skip ?_|refine t_exit ?_|refine t_block ?_|refine n_block ?_|refine e_then ?_|refine x_then ?_|refine x_block ?_|refine t_draw ?_)|refine r_val rfl rfl True.intro ?_|refine r_gskip rfl rfl rfl ?_|refine r_gskip2 rfl rfl rfl ?_|refine r_gval rfl rfl rfl rfl True.intro ?_|refine t_true rfl ?_|refine t_false rfl ?_|((first |refine t_cond_d rfl ?_ ?_|refine t_cond_i rfl ?_ ?_|refine t_cond_j rfl ?_ ?_|refine t_cond_s rfl ?_ ?_|refine t_cond_n rfl ?_ ?_|refine t_cond rfl ?_ ?_|refine c_split_d rfl rfl ?_ ?_|refine c_split_i rfl rfl ?_ ?_|refine c_split_j rfl rfl ?_ ?_|refine c_split_s rfl rfl ?_ ?_|refine c_split_n rfl rfl ?_ ?_)<;>intro<;>try (first |(rename_i hz;first |exact tf_ hz|exact ft_ hz)|(exfalso;omega)))|((first |refine r_val rfl rfl ?_ ?_|refine r_gval rfl rfl rfl rfl ?_ ?_|refine r_obj rfl rfl ?_ ?_|refine r_sto rfl ?_ ?_|refine r_gobj rfl rfl rfl rfl ?_ ?_);focus (first |omega|exact le_ rfl|((repeat first |rw [wrap_u8]|rw [IntKind.wrap_i64]|rw [IntKind.wrap_i32]|rw [wrap_u32']|rw [wrap_u64']);(repeat' refine And.intro ?_ ?_)<;>omega)|((repeat' refine And.intro ?_ ?_)<;>first |omega|rfl|exact Nat.le_refl _|exact le_ rfl|exact bytesF_one _)|(simp_all;done)|(simp_all;omega)))|refine e_hit rfl ?_|refine e_miss rfl ?_|with_reducible refine ⟨by kernel_rfl, ?_⟩|((with_reducible refine c_grd ?_);(fail_if_success (refine c_lit true rfl rfl rfl ?_));(fail_if_success (refine c_lit false rfl rfl rfl ?_));refine c_split rfl rfl (fun _ => ?_) (fun _ => ?_)))
      refine T.adoptV 5 6 100 28 8 _ (jF []) rfl rfl rfl ?_
      refine T.adoptV 5 7 101 9 1 _ (txF []) rfl rfl rfl ?_
      refine T.loop hL (fun _ : Nat × List J × List (List UInt8) => [(0, .pv 13 0), (2, .i .u8 (endM true)), (3, .i .i64 (d + 1 : Nat)), (5, .pv 5 0), (8, .pv 8 0)]) (fun x => [(13, .var [.s s, .i .i64 (x.1 : Nat)]), (5, .var [.i .i64 (kindM true), .b false, .b false, .s [], .i .i64 0, .s [], .gs 100 8 (x.2.1).length (jF (x.2.1)), .gs 101 1 (x.2.2).length (txF (x.2.2))]), (8, .var j0C), (100, .row 28 8 (x.2.1).length), (101, .row 9 1 (x.2.2).length)])
        (fun x => x.1 ≤ s.length ∧ jgo s val true j [] [] = jgo s val true x.1 x.2.1 x.2.2 ∧ x.2.1.length ≤ x.1 ∧ x.2.2.length ≤ x.1) (fun x => s.length - x.1) (j, [], []) ⟨by omega, rfl, Nat.zero_le _, Nat.zero_le _⟩
        ⟨⟨rfl, rfl, rfl, rfl, rfl, trivial⟩, ⟨rfl, rfl, rfl, rfl, rfl, trivial⟩, rfl, fun q hq => by rw [hX] at hq; simp at hq; simp [hq]⟩ ?_
      rintro ⟨i, l, ks⟩ ⟨hi, hI, hl, hks⟩
      dsimp only at hi hI hl hks ⊢
      rw [hI, jgo_eq hv hi]
      clear hI c0 c0' h0
      have k1 := key_jctr s i l ks hs hi (by omega)
      unfold jkeys
      rw [if_pos rfl]
      have q1 := @jkey_ok s
      cases h1 : jkey s i ks with
      | inr e =>
        obtain ⟨p, e⟩ := e
        rw [h1] at k1
        repeat' (first |(refine t_panD (id := 6) 4 ?_;dsimp only [splitOp3])|refine r_valA (t := 34) rfl rfl (le_ rfl) ?_|refine pd_lend1 13 (.s []) rfl Tryd.call62 rfl rfl rfl rfl k1 ?_|with_reducible (first |refine t_seq ?_|refine t_region ?_|refine c_nil ?_|refine n_then ?_|refine t_ret ?_|refine t_skip ?_|refine t_exit ?_|refine t_block ?_|refine n_block ?_|refine e_then ?_|refine x_then ?_|refine x_block ?_|refine t_draw ?_)|refine r_val rfl rfl True.intro ?_|refine r_gskip rfl rfl rfl ?_|refine r_gskip2 rfl rfl rfl ?_|refine r_gval rfl rfl rfl rfl True.intro ?_|refine t_true rfl ?_|refine t_false rfl ?_|((first |refine t_cond_d rfl ?_ ?_|refine t_cond_i rfl ?_ ?_|refine t_cond_j rfl ?_ ?_|refine t_cond_s rfl ?_ ?_|refine t_cond_n rfl ?_ ?_|refine t_cond rfl ?_ ?_|refine c_split_d rfl rfl ?_ ?_|refine c_split_i rfl rfl ?_ ?_|refine c_split_j rfl rfl ?_ ?_|refine c_split_s rfl rfl ?_ ?_|refine c_split_n rfl rfl ?_ ?_)<;>intro<;>try (first |(rename_i hz;first |exact tf_ hz|exact ft_ hz)|(exfalso;omega)))|((first |refine r_val rfl rfl ?_ ?_|refine r_gval rfl rfl rfl rfl ?_ ?_|refine r_obj rfl rfl ?_ ?_|refine r_sto rfl ?_ ?_|refine r_gobj rfl rfl rfl rfl ?_ ?_);focus (first |omega|exact le_ rfl|((repeat first |rw [wrap_u8]|rw [IntKind.wrap_i64]|rw [IntKind.wrap_i32]|rw [wrap_u32']|rw [wrap_u64']);(repeat' refine And.intro ?_ ?_)<;>omega)|((repeat' refine And.intro ?_ ?_)<;>first |omega|rfl|exact Nat.le_refl _|exact le_ rfl|exact bytesF_one _)|(simp_all;done)|(simp_all;omega)))|refine e_hit rfl ?_|refine e_miss rfl ?_|with_reducible refine ⟨by kernel_rfl, ?_⟩|refine p_then ?_|refine p_block ?_|refine p_endR ⟨_, _, rfl, rfl, _, rfl⟩|((with_reducible refine c_grd ?_);(fail_if_success (refine c_lit true rfl rfl rfl ?_));(fail_if_success (refine c_lit false rfl rfl rfl ?_));refine c_split rfl rfl (fun _ => ?_) (fun _ => ?_)))
      | inl r =>
        obtain ⟨k, i1⟩ := r
        rw [h1] at k1
        have q1 := q1 hi h1
        dsimp only
        have v1 := hval i1 q1.2
        rw [← hd1] at v1
        have q2 := hv i1
        cases h2 : val i1 with
        | inr e =>
          obtain ⟨p, e⟩ := e
          rw [h2] at v1
          repeat' (first |(refine t_panD (id := 7) 5 ?_;dsimp only [splitOp3])|refine r_valA (t := 34) rfl rfl (le_ rfl) ?_|refine r_lend1 (f := 62) 13 rfl rfl Tryd.call62 rfl rfl rfl rfl rfl k1 ?_|refine pd_lend1 13 (.ag (litC 0 false)) rfl Tryd.call25 rfl rfl rfl rfl v1 ?_|with_reducible (first |refine t_seq ?_|refine t_region ?_|refine c_nil ?_|refine n_then ?_|refine t_ret ?_|refine t_skip ?_|refine t_exit ?_|refine t_block ?_|refine n_block ?_|refine e_then ?_|refine x_then ?_|refine x_block ?_|refine t_draw ?_)|refine r_val rfl rfl True.intro ?_|refine r_gskip rfl rfl rfl ?_|refine r_gskip2 rfl rfl rfl ?_|refine r_gval rfl rfl rfl rfl True.intro ?_|refine t_true rfl ?_|refine t_false rfl ?_|((first |refine t_cond_d rfl ?_ ?_|refine t_cond_i rfl ?_ ?_|refine t_cond_j rfl ?_ ?_|refine t_cond_s rfl ?_ ?_|refine t_cond_n rfl ?_ ?_|refine t_cond rfl ?_ ?_|refine c_split_d rfl rfl ?_ ?_|refine c_split_i rfl rfl ?_ ?_|refine c_split_j rfl rfl ?_ ?_|refine c_split_s rfl rfl ?_ ?_|refine c_split_n rfl rfl ?_ ?_)<;>intro<;>try (first |(rename_i hz;first |exact tf_ hz|exact ft_ hz)|(exfalso;omega)))|((first |refine r_val rfl rfl ?_ ?_|refine r_gval rfl rfl rfl rfl ?_ ?_|refine r_obj rfl rfl ?_ ?_|refine r_sto rfl ?_ ?_|refine r_gobj rfl rfl rfl rfl ?_ ?_);focus (first |omega|exact le_ rfl|((repeat first |rw [wrap_u8]|rw [IntKind.wrap_i64]|rw [IntKind.wrap_i32]|rw [wrap_u32']|rw [wrap_u64']);(repeat' refine And.intro ?_ ?_)<;>omega)|((repeat' refine And.intro ?_ ?_)<;>first |omega|rfl|exact Nat.le_refl _|exact le_ rfl|exact bytesF_one _)|(simp_all;done)|(simp_all;omega)))|refine e_hit rfl ?_|refine e_miss rfl ?_|with_reducible refine ⟨by kernel_rfl, ?_⟩|refine p_then ?_|refine p_block ?_|refine p_endR ⟨_, _, rfl, rfl, _, rfl⟩|((with_reducible refine c_grd ?_);(fail_if_success (refine c_lit true rfl rfl rfl ?_));(fail_if_success (refine c_lit false rfl rfl rfl ?_));refine c_split rfl rfl (fun _ => ?_) (fun _ => ?_)))
        | inl r =>
          obtain ⟨x, i2⟩ := r
          rw [h2] at v1
          have q2 := q2 x i2 q1.2 h2
          dsimp only
          obtain ⟨xk, xy, xn, xd, xe, xt, xl, xs⟩ := x
          replace v1 : RdE 25 [.pv 13 0, .i .i64 (((d + 1 : Nat) : Int) - 1)] s i1 (.inl (.ag [.i .i64 xk, .b xy, .b xn, .s xd, .i .i64 xe, .s xt, .sl 8 xl.length (jF xl), .sl 1 xs.length (txF xs)], i2)) := by
            rw [← jC_mk]
            exact v1
          have e2 := catF_j l (.mk xk xy xn xd xe xt xl xs) (chunk 8 [.i .i64 xk, .b xy, .b xn, .s xd, .i .i64 xe, .s xt, .sl 8 xl.length (jF xl), .sl 1 xs.length (txF xs)]) (by rw [jC_mk]; rfl)
          have e1 := catF_tx ks k (chunk 1 [.s k]) rfl
          generalize hX2 : J.mk xk xy xn xd xe xt xl xs = x at *
          have hl1 : (l ++ [x]).length = l.length + 1 := by simp
          have hk1 : (ks ++ [k]).length = ks.length + 1 := by simp
          have c3 := jpeek_ctr s i2 hs q2.2
          cases h3 : jpeek s i2 with
          | inr e =>
            obtain ⟨p, e⟩ := e
            rw [h3] at c3
            repeat' (first |(refine t_pan (id := 8) 1 ?_;dsimp only [splitOp])|refine r_valA (t := 34) rfl rfl (le_ rfl) ?_|refine r_lend1 (f := 62) 13 rfl rfl Tryd.call62 rfl rfl rfl rfl rfl k1 ?_|refine r_lend1 (f := 25) 13 rfl rfl Tryd.call25 rfl rfl rfl rfl rfl v1 ?_|refine p_lend1 13 rfl Tryd.call39 rfl rfl rfl rfl c3 ?_|with_reducible (first |refine t_seq ?_|refine t_region ?_|refine c_nil ?_|refine n_then ?_|refine t_ret ?_|refine t_skip ?_|refine t_exit ?_|refine t_block ?_|refine n_block ?_|refine e_then ?_|refine x_then ?_|refine x_block ?_|refine t_draw ?_)|refine r_val rfl rfl True.intro ?_|refine r_gskip rfl rfl rfl ?_|refine r_gskip2 rfl rfl rfl ?_|refine r_gval rfl rfl rfl rfl True.intro ?_|refine t_true rfl ?_|refine t_false rfl ?_|((first |refine t_cond_d rfl ?_ ?_|refine t_cond_i rfl ?_ ?_|refine t_cond_j rfl ?_ ?_|refine t_cond_s rfl ?_ ?_|refine t_cond_n rfl ?_ ?_|refine t_cond rfl ?_ ?_|refine c_split_d rfl rfl ?_ ?_|refine c_split_i rfl rfl ?_ ?_|refine c_split_j rfl rfl ?_ ?_|refine c_split_s rfl rfl ?_ ?_|refine c_split_n rfl rfl ?_ ?_)<;>intro<;>try (first |(rename_i hz;first |exact tf_ hz|exact ft_ hz)|(exfalso;omega)))|((first |refine r_val rfl rfl ?_ ?_|refine r_gval rfl rfl rfl rfl ?_ ?_|refine r_obj rfl rfl ?_ ?_|refine r_sto rfl ?_ ?_|refine r_gobj rfl rfl rfl rfl ?_ ?_);focus (first |omega|exact le_ rfl|((repeat first |rw [wrap_u8]|rw [IntKind.wrap_i64]|rw [IntKind.wrap_i32]|rw [wrap_u32']|rw [wrap_u64']);(repeat' refine And.intro ?_ ?_)<;>omega)|((repeat' refine And.intro ?_ ?_)<;>first |omega|rfl|exact Nat.le_refl _|exact le_ rfl|exact bytesF_one _)|(simp_all;done)|(simp_all;omega)))|refine e_hit rfl ?_|refine e_miss rfl ?_|with_reducible refine ⟨by kernel_rfl, ?_⟩|refine p_then ?_|refine p_block ?_|refine p_endR ⟨_, _, rfl, rfl, _, rfl⟩|((with_reducible refine c_grd ?_);(fail_if_success (refine c_lit true rfl rfl rfl ?_));(fail_if_success (refine c_lit false rfl rfl rfl ?_));refine c_split rfl rfl (fun _ => ?_) (fun _ => ?_)))
          | inl i3 =>
            rw [h3] at c3
            have q3 := jpeek_ok q2.2 h3
            dsimp only
            by_cases hen : at' s i3 = endM true
            · rw [if_pos hen]
              have hen' : at' s i3 = 125 := hen
              repeat' (first |refine r_valA (t := 34) rfl rfl (le_ rfl) ?_|refine r_lend1 (f := 62) 13 rfl rfl Tryd.call62 rfl rfl rfl rfl rfl k1 ?_|refine r_lend1 (f := 25) 13 rfl rfl Tryd.call25 rfl rfl rfl rfl rfl v1 ?_|refine r_lend1 (f := 39) 13 rfl rfl Tryd.call39 rfl rfl rfl rfl rfl c3 ?_|with_reducible (first |refine t_seq ?_|refine t_region ?_|refine c_nil ?_|refine n_then ?_|refine t_ret ?_|refine t_skip ?_|refine t_exit ?_|refine t_block ?_|refine n_block ?_|refine e_then ?_|refine x_then ?_|refine x_block ?_|refine t_draw ?_)|refine r_val rfl rfl True.intro ?_|refine r_gskip rfl rfl rfl ?_|refine r_gskip2 rfl rfl rfl ?_|refine r_gval rfl rfl rfl rfl True.intro ?_|refine t_true rfl ?_|refine t_false rfl ?_|((first |refine t_cond_d rfl ?_ ?_|refine t_cond_i rfl ?_ ?_|refine t_cond_j rfl ?_ ?_|refine t_cond_s rfl ?_ ?_|refine t_cond_n rfl ?_ ?_|refine t_cond rfl ?_ ?_|refine c_split_d rfl rfl ?_ ?_|refine c_split_i rfl rfl ?_ ?_|refine c_split_j rfl rfl ?_ ?_|refine c_split_s rfl rfl ?_ ?_|refine c_split_n rfl rfl ?_ ?_)<;>intro<;>try (first |(rename_i hz;first |exact tf_ hz|exact ft_ hz)|(exfalso;omega)))|((first |refine r_val rfl rfl ?_ ?_|refine r_gval rfl rfl rfl rfl ?_ ?_|refine r_obj rfl rfl ?_ ?_|refine r_sto rfl ?_ ?_|refine r_gobj rfl rfl rfl rfl ?_ ?_);focus (first |omega|exact le_ rfl|((repeat first |rw [wrap_u8]|rw [IntKind.wrap_i64]|rw [IntKind.wrap_i32]|rw [wrap_u32']|rw [wrap_u64']);(repeat' refine And.intro ?_ ?_)<;>omega)|((repeat' refine And.intro ?_ ?_)<;>first |omega|rfl|exact Nat.le_refl _|exact le_ rfl|exact bytesF_one _)|(simp_all;done)|(simp_all;omega)))|refine e_hit rfl ?_|refine e_miss rfl ?_|with_reducible refine ⟨by kernel_rfl, ?_⟩|refine x_endR rfl ⟨_, _, rfl, ?_, ?_⟩|refine n_endR rfl ⟨_, _, rfl, ?_, ?_⟩|((with_reducible refine c_grd ?_);(fail_if_success (refine c_lit true rfl rfl rfl ?_));(fail_if_success (refine c_lit false rfl rfl rfl ?_));refine c_split rfl rfl (fun _ => ?_) (fun _ => ?_)))
              all_goals first
                | exact congrArg (fun x => some (Own.var [.s s, .i .i64 x])) (by omega)
                | (refine .of_eq ?_; unfold manyV; rw [jC_mk, hl1, hk1, ← e1, ← e2]; rfl)
                | trace_state
            · rw [if_neg hen]
              have hen' : ¬ at' s i3 = 125 := hen
              by_cases hco : at' s i3 = 44
              · rw [if_pos hco]
                repeat' (first |refine r_valA (t := 34) rfl rfl (le_ rfl) ?_|refine r_lend1 (f := 62) 13 rfl rfl Tryd.call62 rfl rfl rfl rfl rfl k1 ?_|refine r_lend1 (f := 25) 13 rfl rfl Tryd.call25 rfl rfl rfl rfl rfl v1 ?_|refine r_lend1 (f := 39) 13 rfl rfl Tryd.call39 rfl rfl rfl rfl rfl c3 ?_|with_reducible (first |refine t_seq ?_|refine t_region ?_|refine c_nil ?_|refine n_then ?_|refine t_ret ?_|refine t_skip ?_|refine t_exit ?_|refine t_block ?_|refine n_block ?_|refine e_then ?_|refine x_then ?_|refine x_block ?_|refine t_draw ?_)|refine r_val rfl rfl True.intro ?_|refine r_gskip rfl rfl rfl ?_|refine r_gskip2 rfl rfl rfl ?_|refine r_gval rfl rfl rfl rfl True.intro ?_|refine t_true rfl ?_|refine t_false rfl ?_|((first |refine t_cond_d rfl ?_ ?_|refine t_cond_i rfl ?_ ?_|refine t_cond_j rfl ?_ ?_|refine t_cond_s rfl ?_ ?_|refine t_cond_n rfl ?_ ?_|refine t_cond rfl ?_ ?_|refine c_split_d rfl rfl ?_ ?_|refine c_split_i rfl rfl ?_ ?_|refine c_split_j rfl rfl ?_ ?_|refine c_split_s rfl rfl ?_ ?_|refine c_split_n rfl rfl ?_ ?_)<;>intro<;>try (first |(rename_i hz;first |exact tf_ hz|exact ft_ hz)|(exfalso;omega)))|((first |refine r_val rfl rfl ?_ ?_|refine r_gval rfl rfl rfl rfl ?_ ?_|refine r_obj rfl rfl ?_ ?_|refine r_sto rfl ?_ ?_|refine r_gobj rfl rfl rfl rfl ?_ ?_);focus (first |omega|exact le_ rfl|((repeat first |rw [wrap_u8]|rw [IntKind.wrap_i64]|rw [IntKind.wrap_i32]|rw [wrap_u32']|rw [wrap_u64']);(repeat' refine And.intro ?_ ?_)<;>omega)|((repeat' refine And.intro ?_ ?_)<;>first |omega|rfl|exact Nat.le_refl _|exact le_ rfl|exact bytesF_one _)|(simp_all;done)|(simp_all;omega)))|refine e_hit rfl ?_|refine e_miss rfl ?_|with_reducible refine ⟨by kernel_rfl, ?_⟩|((with_reducible refine c_grd ?_);(fail_if_success (refine c_lit true rfl rfl rfl ?_));(fail_if_success (refine c_lit false rfl rfl rfl ?_));refine c_split rfl rfl (fun _ => ?_) (fun _ => ?_)))
                all_goals first
                  | exact ⟨(i3 + 1, l ++ [x], (ks ++ [k])), ⟨by dsimp only; omega, rfl, by dsimp only; omega, by dsimp only; omega⟩, by dsimp only; omega, ⟨rfl, rfl, rfl, rfl, rfl, trivial⟩, ⟨congrArg (fun x => some (Own.var [.s s, .i .i64 x])) (by omega), (by rw [hl1, hk1, ← e1, ← e2]; rfl), rfl, (by rw [hl1]; rfl), (by rw [hk1]; rfl), trivial⟩, rfl, fun q hq => by rw [hX] at hq; simp at hq; simp [hq]⟩
                  | trace_state
              · rw [if_neg hco]
                have c5 := jfail_ctr i3 3
                repeat' (first |(refine t_pan (id := 9) 4 ?_;dsimp only [splitOp])|refine r_valA (t := 34) rfl rfl (le_ rfl) ?_|refine r_lend1 (f := 62) 13 rfl rfl Tryd.call62 rfl rfl rfl rfl rfl k1 ?_|refine r_lend1 (f := 25) 13 rfl rfl Tryd.call25 rfl rfl rfl rfl rfl v1 ?_|refine r_lend1 (f := 39) 13 rfl rfl Tryd.call39 rfl rfl rfl rfl rfl c3 ?_|refine p_call rfl Tryd.call27 rfl c5 ?_|with_reducible (first |refine t_seq ?_|refine t_region ?_|refine c_nil ?_|refine n_then ?_|refine t_ret ?_|refine t_skip ?_|refine t_exit ?_|refine t_block ?_|refine n_block ?_|refine e_then ?_|refine x_then ?_|refine x_block ?_|refine t_draw ?_)|refine r_val rfl rfl True.intro ?_|refine r_gskip rfl rfl rfl ?_|refine r_gskip2 rfl rfl rfl ?_|refine r_gval rfl rfl rfl rfl True.intro ?_|refine t_true rfl ?_|refine t_false rfl ?_|((first |refine t_cond_d rfl ?_ ?_|refine t_cond_i rfl ?_ ?_|refine t_cond_j rfl ?_ ?_|refine t_cond_s rfl ?_ ?_|refine t_cond_n rfl ?_ ?_|refine t_cond rfl ?_ ?_|refine c_split_d rfl rfl ?_ ?_|refine c_split_i rfl rfl ?_ ?_|refine c_split_j rfl rfl ?_ ?_|refine c_split_s rfl rfl ?_ ?_|refine c_split_n rfl rfl ?_ ?_)<;>intro<;>try (first |(rename_i hz;first |exact tf_ hz|exact ft_ hz)|(exfalso;omega)))|((first |refine r_val rfl rfl ?_ ?_|refine r_gval rfl rfl rfl rfl ?_ ?_|refine r_obj rfl rfl ?_ ?_|refine r_sto rfl ?_ ?_|refine r_gobj rfl rfl rfl rfl ?_ ?_);focus (first |omega|exact le_ rfl|((repeat first |rw [wrap_u8]|rw [IntKind.wrap_i64]|rw [IntKind.wrap_i32]|rw [wrap_u32']|rw [wrap_u64']);(repeat' refine And.intro ?_ ?_)<;>omega)|((repeat' refine And.intro ?_ ?_)<;>first |omega|rfl|exact Nat.le_refl _|exact le_ rfl|exact bytesF_one _)|(simp_all;done)|(simp_all;omega)))|refine e_hit rfl ?_|refine e_miss rfl ?_|with_reducible refine ⟨by kernel_rfl, ?_⟩|refine p_then ?_|refine p_block ?_|refine p_endR ⟨_, _, rfl, rfl, _, rfl⟩|((with_reducible refine c_grd ?_);(fail_if_success (refine c_lit true rfl rfl rfl ?_));(fail_if_success (refine c_lit false rfl rfl rfl ?_));refine c_split rfl rfl (fun _ => ?_) (fun _ => ?_)))

set_option maxRecDepth 100000 in
set_option maxHeartbeats 8000000 in
theorem many_false_jctr (s : List UInt8) (val : Nat → JR) (d : Nat) (hs : s.length ≤ 1048576) (hd : d ≤ 100) (hv : ValOk s val) (hval : ∀ i, i ≤ s.length → RdE 25 [.pv 13 0, .i .i64 d] s i (valD (val i))) (i : Nat) (hi : i < s.length) :
    RdE 42 [.pv 13 0, .ag (litC (kindM false) false), .i .u8 (endM false), .i .i64 (d + 1 : Nat)] s i (valD (jmany s val false i)) := by
  refine r_methR Tryd.func42 rfl Tryd.ntmps42 Tryd.results42 rfl valD_ok fun X hL hX => ?_
  have hd1 : ((d + 1 : Nat) : Int) - 1 = d := by omega
  have c0 : RdE 39 [.pv 13 0] s (i + 1) (peekD s (jpeek s (i + 1))) := jpeek_ctr s (i + 1) hs hi
  have p0 := @jpeek_ok s (i + 1)
  unfold jmany
  cases h0 : jpeek s (i + 1) with
  | inr e =>
    obtain ⟨p, e⟩ := e
    rw [h0] at c0
    have c0' : CtrP Tryd.prog 39 [.pv 13 0] [(13, .var [.s s, .i .i64 ((i : Int) + 1)])] (pvS p e) [(13, .gone)] := c0
    repeat' (first |(refine t_pan (id := 2) 1 ?_;dsimp only [splitOp])|refine p_lend1 13 rfl Tryd.call39 rfl rfl rfl rfl c0' ?_|with_reducible (first |refine t_seq ?_|refine t_region ?_|refine c_nil ?_|refine n_then ?_|refine t_ret ?_|refine t_skip ?_|refine t_exit ?_|refine t_block ?_|refine n_block ?_|refine e_then ?_|refine x_then ?_|refine x_block ?_|refine t_draw ?_)|refine r_val rfl rfl True.intro ?_|refine r_gskip rfl rfl rfl ?_|refine r_gskip2 rfl rfl rfl ?_|refine r_gval rfl rfl rfl rfl True.intro ?_|refine t_true rfl ?_|refine t_false rfl ?_|((first |refine t_cond_d rfl ?_ ?_|refine t_cond_i rfl ?_ ?_|refine t_cond_j rfl ?_ ?_|refine t_cond_s rfl ?_ ?_|refine t_cond_n rfl ?_ ?_|refine t_cond rfl ?_ ?_|refine c_split_d rfl rfl ?_ ?_|refine c_split_i rfl rfl ?_ ?_|refine c_split_j rfl rfl ?_ ?_|refine c_split_s rfl rfl ?_ ?_|refine c_split_n rfl rfl ?_ ?_)<;>intro<;>try (first |(rename_i hz;first |exact tf_ hz|exact ft_ hz)|(exfalso;omega)))|((first |refine r_val rfl rfl ?_ ?_|refine r_gval rfl rfl rfl rfl ?_ ?_|refine r_obj rfl rfl ?_ ?_|refine r_sto rfl ?_ ?_|refine r_gobj rfl rfl rfl rfl ?_ ?_);focus (first |omega|exact le_ rfl|((repeat first |rw [wrap_u8]|rw [IntKind.wrap_i64]|rw [IntKind.wrap_i32]|rw [wrap_u32']|rw [wrap_u64']);(repeat' refine And.intro ?_ ?_)<;>omega)|((repeat' refine And.intro ?_ ?_)<;>first |omega|rfl|exact Nat.le_refl _|exact le_ rfl|exact bytesF_one _)|(simp_all;done)|(simp_all;omega)))|refine e_hit rfl ?_|refine e_miss rfl ?_|with_reducible refine ⟨by kernel_rfl, ?_⟩|refine p_then ?_|refine p_block ?_|refine p_endR ⟨_, _, rfl, rfl, _, rfl⟩|((with_reducible refine c_grd ?_);(fail_if_success (refine c_lit true rfl rfl rfl ?_));(fail_if_success (refine c_lit false rfl rfl rfl ?_));refine c_split rfl rfl (fun _ => ?_) (fun _ => ?_)))
  | inl j =>
    rw [h0] at c0
    have c0' : CtrO Tryd.prog 39 [.pv 13 0] [(13, .var [.s s, .i .i64 ((i : Int) + 1)])] (.i .u8 (at' s j)) [(13, .var [.s s, .i .i64 j])] := c0
    have p0 := p0 hi h0
    dsimp only
    by_cases he : at' s j = endM false
    · rw [if_pos he]
      have he' : at' s j = 93 := he
      repeat' (first |refine r_lend1 (f := 39) 13 rfl rfl Tryd.call39 rfl rfl rfl rfl rfl c0' ?_|with_reducible (first |refine t_seq ?_|refine t_region ?_|refine c_nil ?_|refine n_then ?_|refine t_ret ?_|refine t_skip ?_|refine t_exit ?_|refine t_block ?_|refine n_block ?_|refine e_then ?_|refine x_then ?_|refine x_block ?_|refine t_draw ?_)|refine r_val rfl rfl True.intro ?_|refine r_gskip rfl rfl rfl ?_|refine r_gskip2 rfl rfl rfl ?_|refine r_gval rfl rfl rfl rfl True.intro ?_|refine t_true rfl ?_|refine t_false rfl ?_|((first |refine t_cond_d rfl ?_ ?_|refine t_cond_i rfl ?_ ?_|refine t_cond_j rfl ?_ ?_|refine t_cond_s rfl ?_ ?_|refine t_cond_n rfl ?_ ?_|refine t_cond rfl ?_ ?_|refine c_split_d rfl rfl ?_ ?_|refine c_split_i rfl rfl ?_ ?_|refine c_split_j rfl rfl ?_ ?_|refine c_split_s rfl rfl ?_ ?_|refine c_split_n rfl rfl ?_ ?_)<;>intro<;>try (first |(rename_i hz;first |exact tf_ hz|exact ft_ hz)|(exfalso;omega)))|((first |refine r_val rfl rfl ?_ ?_|refine r_gval rfl rfl rfl rfl ?_ ?_|refine r_obj rfl rfl ?_ ?_|refine r_sto rfl ?_ ?_|refine r_gobj rfl rfl rfl rfl ?_ ?_);focus (first |omega|exact le_ rfl|((repeat first |rw [wrap_u8]|rw [IntKind.wrap_i64]|rw [IntKind.wrap_i32]|rw [wrap_u32']|rw [wrap_u64']);(repeat' refine And.intro ?_ ?_)<;>omega)|((repeat' refine And.intro ?_ ?_)<;>first |omega|rfl|exact Nat.le_refl _|exact le_ rfl|exact bytesF_one _)|(simp_all;done)|(simp_all;omega)))|refine e_hit rfl ?_|refine e_miss rfl ?_|with_reducible refine ⟨by kernel_rfl, ?_⟩|refine x_endR rfl ⟨_, _, rfl, many_weak false, ?_⟩|refine n_endR rfl ⟨_, _, rfl, many_weak false, ?_⟩|((with_reducible refine c_grd ?_);(fail_if_success (refine c_lit true rfl rfl rfl ?_));(fail_if_success (refine c_lit false rfl rfl rfl ?_));refine c_split rfl rfl (fun _ => ?_) (fun _ => ?_)))
      all_goals exact congrArg (fun x => some (Own.var [.s s, .i .i64 x])) (by omega)
    · rw [if_neg he]
      have he' : ¬ at' s j = 93 := he
      repeat' (first |refine r_lend1 (f := 39) 13 rfl rfl Tryd.call39 rfl rfl rfl rfl rfl c0' ?_|with_reducible (first |refine t_seq ?_|refine t_region ?_|refine c_nil ?_|refine n_then ?_|refine t_ret ?_|refine t_skip ?_|refine t_exit ?_|refine t_block ?_|refine n_block ?_|refine e_then ?_|refine x_then ?_|refine x_block ?_|refine t_draw ?_)|refine r_val rfl rfl True.intro ?_|refine r_gskip rfl rfl rfl ?_|refine r_gskip2 rfl rfl rfl ?_|refine r_gval rfl rfl rfl rfl True.intro ?_|refine t_true rfl ?_|refine t_false rfl ?_|((first |refine t_cond_d rfl ?_ ?_|refine t_cond_i rfl ?_ ?_|refine t_cond_j rfl ?_ ?_|refine t_cond_s rfl ?_ ?_|refine t_cond_n rfl ?_ ?_|refine t_cond rfl ?_ ?_|refine c_split_d rfl rfl ?_ ?_|refine c_split_i rfl rfl ?_ ?_|refine c_split_j rfl rfl ?_ ?_|refine c_split_s rfl rfl ?_ ?_|refine c_split_n rfl rfl ?_ ?_)<;>intro<;>try (first |(rename_i hz;first |exact tf_ hz|exact ft_ hz)|(exfalso;omega)))|((first |refine r_val rfl rfl ?_ ?_|refine r_gval rfl rfl rfl rfl ?_ ?_|refine r_obj rfl rfl ?_ ?_|refine r_sto rfl ?_ ?_|refine r_gobj rfl rfl rfl rfl ?_ ?_);focus (first |omega|exact le_ rfl|((repeat first |rw [wrap_u8]|rw [IntKind.wrap_i64]|rw [IntKind.wrap_i32]|rw [wrap_u32']|rw [wrap_u64']);(repeat' refine And.intro ?_ ?_)<;>omega)|((repeat' refine And.intro ?_ ?_)<;>first |omega|rfl|exact Nat.le_refl _|exact le_ rfl|exact bytesF_one _)|(simp_all;done)|(simp_all;omega)))|refine e_hit rfl ?_|refine e_miss rfl ?_|with_reducible refine ⟨by kernel_rfl, ?_⟩|((with_reducible refine c_grd ?_);(fail_if_success (refine c_lit true rfl rfl rfl ?_));(fail_if_success (refine c_lit false rfl rfl rfl ?_));refine c_split rfl rfl (fun _ => ?_) (fun _ => ?_)))
      refine T.adoptV 5 6 100 28 8 _ (jF []) rfl rfl rfl ?_
      refine T.adoptV 5 7 101 9 1 _ (txF []) rfl rfl rfl ?_
      refine T.loop hL (fun _ : Nat × List J × List (List UInt8) => [(0, .pv 13 0), (2, .i .u8 (endM false)), (3, .i .i64 (d + 1 : Nat)), (5, .pv 5 0), (8, .pv 8 0)]) (fun x => [(13, .var [.s s, .i .i64 (x.1 : Nat)]), (5, .var [.i .i64 (kindM false), .b false, .b false, .s [], .i .i64 0, .s [], .gs 100 8 (x.2.1).length (jF (x.2.1)), .gs 101 1 (x.2.2).length (txF (x.2.2))]), (8, .var j0C), (100, .row 28 8 (x.2.1).length), (101, .row 9 1 (x.2.2).length)])
        (fun x => x.1 ≤ s.length ∧ jgo s val false j [] [] = jgo s val false x.1 x.2.1 x.2.2 ∧ x.2.1.length ≤ x.1 ∧ x.2.2.length ≤ x.1) (fun x => s.length - x.1) (j, [], []) ⟨by omega, rfl, Nat.zero_le _, Nat.zero_le _⟩
        ⟨⟨rfl, rfl, rfl, rfl, rfl, trivial⟩, ⟨rfl, rfl, rfl, rfl, rfl, trivial⟩, rfl, fun q hq => by rw [hX] at hq; simp at hq; simp [hq]⟩ ?_
      rintro ⟨i, l, ks⟩ ⟨hi, hI, hl, hks⟩
      dsimp only at hi hI hl hks ⊢
      rw [hI, jgo_eq hv hi]
      clear hI c0 c0' h0
      unfold jkeys
      rw [if_neg Bool.false_ne_true]
      dsimp only
      have q1 : i ≤ i ∧ i ≤ s.length := ⟨Nat.le_refl _, hi⟩
      have v1 := hval i q1.2
      rw [← hd1] at v1
      have q2 := hv i
      cases h2 : val i with
      | inr e =>
        obtain ⟨p, e⟩ := e
        rw [h2] at v1
        repeat' (first |(refine t_panD (id := 7) 5 ?_;dsimp only [splitOp3])|refine pd_lend1 13 (.ag (litC 0 false)) rfl Tryd.call25 rfl rfl rfl rfl v1 ?_|with_reducible (first |refine t_seq ?_|refine t_region ?_|refine c_nil ?_|refine n_then ?_|refine t_ret ?_|refine t_skip ?_|refine t_exit ?_|refine t_block ?_|refine n_block ?_|refine e_then ?_|refine x_then ?_|refine x_block ?_|refine t_draw ?_)|refine r_val rfl rfl True.intro ?_|refine r_gskip rfl rfl rfl ?_|refine r_gskip2 rfl rfl rfl ?_|refine r_gval rfl rfl rfl rfl True.intro ?_|refine t_true rfl ?_|refine t_false rfl ?_|((first |refine t_cond_d rfl ?_ ?_|refine t_cond_i rfl ?_ ?_|refine t_cond_j rfl ?_ ?_|refine t_cond_s rfl ?_ ?_|refine t_cond_n rfl ?_ ?_|refine t_cond rfl ?_ ?_|refine c_split_d rfl rfl ?_ ?_|refine c_split_i rfl rfl ?_ ?_|refine c_split_j rfl rfl ?_ ?_|refine c_split_s rfl rfl ?_ ?_|refine c_split_n rfl rfl ?_ ?_)<;>intro<;>try (first |(rename_i hz;first |exact tf_ hz|exact ft_ hz)|(exfalso;omega)))|((first |refine r_val rfl rfl ?_ ?_|refine r_gval rfl rfl rfl rfl ?_ ?_|refine r_obj rfl rfl ?_ ?_|refine r_sto rfl ?_ ?_|refine r_gobj rfl rfl rfl rfl ?_ ?_);focus (first |omega|exact le_ rfl|((repeat first |rw [wrap_u8]|rw [IntKind.wrap_i64]|rw [IntKind.wrap_i32]|rw [wrap_u32']|rw [wrap_u64']);(repeat' refine And.intro ?_ ?_)<;>omega)|((repeat' refine And.intro ?_ ?_)<;>first |omega|rfl|exact Nat.le_refl _|exact le_ rfl|exact bytesF_one _)|(simp_all;done)|(simp_all;omega)))|refine e_hit rfl ?_|refine e_miss rfl ?_|with_reducible refine ⟨by kernel_rfl, ?_⟩|refine p_then ?_|refine p_block ?_|refine p_endR ⟨_, _, rfl, rfl, _, rfl⟩|((with_reducible refine c_grd ?_);(fail_if_success (refine c_lit true rfl rfl rfl ?_));(fail_if_success (refine c_lit false rfl rfl rfl ?_));refine c_split rfl rfl (fun _ => ?_) (fun _ => ?_)))
      | inl r =>
        obtain ⟨x, i2⟩ := r
        rw [h2] at v1
        have q2 := q2 x i2 q1.2 h2
        dsimp only
        obtain ⟨xk, xy, xn, xd, xe, xt, xl, xs⟩ := x
        replace v1 : RdE 25 [.pv 13 0, .i .i64 (((d + 1 : Nat) : Int) - 1)] s i (.inl (.ag [.i .i64 xk, .b xy, .b xn, .s xd, .i .i64 xe, .s xt, .sl 8 xl.length (jF xl), .sl 1 xs.length (txF xs)], i2)) := by
          rw [← jC_mk]
          exact v1
        have e2 := catF_j l (.mk xk xy xn xd xe xt xl xs) (chunk 8 [.i .i64 xk, .b xy, .b xn, .s xd, .i .i64 xe, .s xt, .sl 8 xl.length (jF xl), .sl 1 xs.length (txF xs)]) (by rw [jC_mk]; rfl)
        skip
        generalize hX2 : J.mk xk xy xn xd xe xt xl xs = x at *
        have hl1 : (l ++ [x]).length = l.length + 1 := by simp
        skip
        have c3 := jpeek_ctr s i2 hs q2.2
        cases h3 : jpeek s i2 with
        | inr e =>
          obtain ⟨p, e⟩ := e
          rw [h3] at c3
          repeat' (first |(refine t_pan (id := 8) 1 ?_;dsimp only [splitOp])|refine r_lend1 (f := 25) 13 rfl rfl Tryd.call25 rfl rfl rfl rfl rfl v1 ?_|refine p_lend1 13 rfl Tryd.call39 rfl rfl rfl rfl c3 ?_|with_reducible (first |refine t_seq ?_|refine t_region ?_|refine c_nil ?_|refine n_then ?_|refine t_ret ?_|refine t_skip ?_|refine t_exit ?_|refine t_block ?_|refine n_block ?_|refine e_then ?_|refine x_then ?_|refine x_block ?_|refine t_draw ?_)|refine r_val rfl rfl True.intro ?_|refine r_gskip rfl rfl rfl ?_|refine r_gskip2 rfl rfl rfl ?_|refine r_gval rfl rfl rfl rfl True.intro ?_|refine t_true rfl ?_|refine t_false rfl ?_|((first |refine t_cond_d rfl ?_ ?_|refine t_cond_i rfl ?_ ?_|refine t_cond_j rfl ?_ ?_|refine t_cond_s rfl ?_ ?_|refine t_cond_n rfl ?_ ?_|refine t_cond rfl ?_ ?_|refine c_split_d rfl rfl ?_ ?_|refine c_split_i rfl rfl ?_ ?_|refine c_split_j rfl rfl ?_ ?_|refine c_split_s rfl rfl ?_ ?_|refine c_split_n rfl rfl ?_ ?_)<;>intro<;>try (first |(rename_i hz;first |exact tf_ hz|exact ft_ hz)|(exfalso;omega)))|((first |refine r_val rfl rfl ?_ ?_|refine r_gval rfl rfl rfl rfl ?_ ?_|refine r_obj rfl rfl ?_ ?_|refine r_sto rfl ?_ ?_|refine r_gobj rfl rfl rfl rfl ?_ ?_);focus (first |omega|exact le_ rfl|((repeat first |rw [wrap_u8]|rw [IntKind.wrap_i64]|rw [IntKind.wrap_i32]|rw [wrap_u32']|rw [wrap_u64']);(repeat' refine And.intro ?_ ?_)<;>omega)|((repeat' refine And.intro ?_ ?_)<;>first |omega|rfl|exact Nat.le_refl _|exact le_ rfl|exact bytesF_one _)|(simp_all;done)|(simp_all;omega)))|refine e_hit rfl ?_|refine e_miss rfl ?_|with_reducible refine ⟨by kernel_rfl, ?_⟩|refine p_then ?_|refine p_block ?_|refine p_endR ⟨_, _, rfl, rfl, _, rfl⟩|((with_reducible refine c_grd ?_);(fail_if_success (refine c_lit true rfl rfl rfl ?_));(fail_if_success (refine c_lit false rfl rfl rfl ?_));refine c_split rfl rfl (fun _ => ?_) (fun _ => ?_)))
        | inl i3 =>
          rw [h3] at c3
          have q3 := jpeek_ok q2.2 h3
          dsimp only
          by_cases hen : at' s i3 = endM false
          · rw [if_pos hen]
            have hen' : at' s i3 = 93 := hen
            repeat' (first |refine r_lend1 (f := 25) 13 rfl rfl Tryd.call25 rfl rfl rfl rfl rfl v1 ?_|refine r_lend1 (f := 39) 13 rfl rfl Tryd.call39 rfl rfl rfl rfl rfl c3 ?_|with_reducible (first |refine t_seq ?_|refine t_region ?_|refine c_nil ?_|refine n_then ?_|refine t_ret ?_|refine t_skip ?_|refine t_exit ?_|refine t_block ?_|refine n_block ?_|refine e_then ?_|refine x_then ?_|refine x_block ?_|refine t_draw ?_)|refine r_val rfl rfl True.intro ?_|refine r_gskip rfl rfl rfl ?_|refine r_gskip2 rfl rfl rfl ?_|refine r_gval rfl rfl rfl rfl True.intro ?_|refine t_true rfl ?_|refine t_false rfl ?_|((first |refine t_cond_d rfl ?_ ?_|refine t_cond_i rfl ?_ ?_|refine t_cond_j rfl ?_ ?_|refine t_cond_s rfl ?_ ?_|refine t_cond_n rfl ?_ ?_|refine t_cond rfl ?_ ?_|refine c_split_d rfl rfl ?_ ?_|refine c_split_i rfl rfl ?_ ?_|refine c_split_j rfl rfl ?_ ?_|refine c_split_s rfl rfl ?_ ?_|refine c_split_n rfl rfl ?_ ?_)<;>intro<;>try (first |(rename_i hz;first |exact tf_ hz|exact ft_ hz)|(exfalso;omega)))|((first |refine r_val rfl rfl ?_ ?_|refine r_gval rfl rfl rfl rfl ?_ ?_|refine r_obj rfl rfl ?_ ?_|refine r_sto rfl ?_ ?_|refine r_gobj rfl rfl rfl rfl ?_ ?_);focus (first |omega|exact le_ rfl|((repeat first |rw [wrap_u8]|rw [IntKind.wrap_i64]|rw [IntKind.wrap_i32]|rw [wrap_u32']|rw [wrap_u64']);(repeat' refine And.intro ?_ ?_)<;>omega)|((repeat' refine And.intro ?_ ?_)<;>first |omega|rfl|exact Nat.le_refl _|exact le_ rfl|exact bytesF_one _)|(simp_all;done)|(simp_all;omega)))|refine e_hit rfl ?_|refine e_miss rfl ?_|with_reducible refine ⟨by kernel_rfl, ?_⟩|refine x_endR rfl ⟨_, _, rfl, ?_, ?_⟩|refine n_endR rfl ⟨_, _, rfl, ?_, ?_⟩|((with_reducible refine c_grd ?_);(fail_if_success (refine c_lit true rfl rfl rfl ?_));(fail_if_success (refine c_lit false rfl rfl rfl ?_));refine c_split rfl rfl (fun _ => ?_) (fun _ => ?_)))
            all_goals first
              | exact congrArg (fun x => some (Own.var [.s s, .i .i64 x])) (by omega)
              | (refine .of_eq ?_; unfold manyV; rw [jC_mk, hl1, ← e2]; rfl)
              | trace_state
          · rw [if_neg hen]
            have hen' : ¬ at' s i3 = 93 := hen
            by_cases hco : at' s i3 = 44
            · rw [if_pos hco]
              repeat' (first |refine r_lend1 (f := 25) 13 rfl rfl Tryd.call25 rfl rfl rfl rfl rfl v1 ?_|refine r_lend1 (f := 39) 13 rfl rfl Tryd.call39 rfl rfl rfl rfl rfl c3 ?_|with_reducible (first |refine t_seq ?_|refine t_region ?_|refine c_nil ?_|refine n_then ?_|refine t_ret ?_|refine t_skip ?_|refine t_exit ?_|refine t_block ?_|refine n_block ?_|refine e_then ?_|refine x_then ?_|refine x_block ?_|refine t_draw ?_)|refine r_val rfl rfl True.intro ?_|refine r_gskip rfl rfl rfl ?_|refine r_gskip2 rfl rfl rfl ?_|refine r_gval rfl rfl rfl rfl True.intro ?_|refine t_true rfl ?_|refine t_false rfl ?_|((first |refine t_cond_d rfl ?_ ?_|refine t_cond_i rfl ?_ ?_|refine t_cond_j rfl ?_ ?_|refine t_cond_s rfl ?_ ?_|refine t_cond_n rfl ?_ ?_|refine t_cond rfl ?_ ?_|refine c_split_d rfl rfl ?_ ?_|refine c_split_i rfl rfl ?_ ?_|refine c_split_j rfl rfl ?_ ?_|refine c_split_s rfl rfl ?_ ?_|refine c_split_n rfl rfl ?_ ?_)<;>intro<;>try (first |(rename_i hz;first |exact tf_ hz|exact ft_ hz)|(exfalso;omega)))|((first |refine r_val rfl rfl ?_ ?_|refine r_gval rfl rfl rfl rfl ?_ ?_|refine r_obj rfl rfl ?_ ?_|refine r_sto rfl ?_ ?_|refine r_gobj rfl rfl rfl rfl ?_ ?_);focus (first |omega|exact le_ rfl|((repeat first |rw [wrap_u8]|rw [IntKind.wrap_i64]|rw [IntKind.wrap_i32]|rw [wrap_u32']|rw [wrap_u64']);(repeat' refine And.intro ?_ ?_)<;>omega)|((repeat' refine And.intro ?_ ?_)<;>first |omega|rfl|exact Nat.le_refl _|exact le_ rfl|exact bytesF_one _)|(simp_all;done)|(simp_all;omega)))|refine e_hit rfl ?_|refine e_miss rfl ?_|with_reducible refine ⟨by kernel_rfl, ?_⟩|((with_reducible refine c_grd ?_);(fail_if_success (refine c_lit true rfl rfl rfl ?_));(fail_if_success (refine c_lit false rfl rfl rfl ?_));refine c_split rfl rfl (fun _ => ?_) (fun _ => ?_)))
              all_goals first
                | exact ⟨(i3 + 1, l ++ [x], ks), ⟨by dsimp only; omega, rfl, by dsimp only; omega, by dsimp only; omega⟩, by dsimp only; omega, ⟨rfl, rfl, rfl, rfl, rfl, trivial⟩, ⟨congrArg (fun x => some (Own.var [.s s, .i .i64 x])) (by omega), (by rw [hl1, ← e2]; rfl), rfl, (by rw [hl1]; rfl), (by rfl), trivial⟩, rfl, fun q hq => by rw [hX] at hq; simp at hq; simp [hq]⟩
                | trace_state
            · rw [if_neg hco]
              have c5 := jfail_ctr i3 3
              repeat' (first |(refine t_pan (id := 9) 4 ?_;dsimp only [splitOp])|refine r_lend1 (f := 25) 13 rfl rfl Tryd.call25 rfl rfl rfl rfl rfl v1 ?_|refine r_lend1 (f := 39) 13 rfl rfl Tryd.call39 rfl rfl rfl rfl rfl c3 ?_|refine p_call rfl Tryd.call27 rfl c5 ?_|with_reducible (first |refine t_seq ?_|refine t_region ?_|refine c_nil ?_|refine n_then ?_|refine t_ret ?_|refine t_skip ?_|refine t_exit ?_|refine t_block ?_|refine n_block ?_|refine e_then ?_|refine x_then ?_|refine x_block ?_|refine t_draw ?_)|refine r_val rfl rfl True.intro ?_|refine r_gskip rfl rfl rfl ?_|refine r_gskip2 rfl rfl rfl ?_|refine r_gval rfl rfl rfl rfl True.intro ?_|refine t_true rfl ?_|refine t_false rfl ?_|((first |refine t_cond_d rfl ?_ ?_|refine t_cond_i rfl ?_ ?_|refine t_cond_j rfl ?_ ?_|refine t_cond_s rfl ?_ ?_|refine t_cond_n rfl ?_ ?_|refine t_cond rfl ?_ ?_|refine c_split_d rfl rfl ?_ ?_|refine c_split_i rfl rfl ?_ ?_|refine c_split_j rfl rfl ?_ ?_|refine c_split_s rfl rfl ?_ ?_|refine c_split_n rfl rfl ?_ ?_)<;>intro<;>try (first |(rename_i hz;first |exact tf_ hz|exact ft_ hz)|(exfalso;omega)))|((first |refine r_val rfl rfl ?_ ?_|refine r_gval rfl rfl rfl rfl ?_ ?_|refine r_obj rfl rfl ?_ ?_|refine r_sto rfl ?_ ?_|refine r_gobj rfl rfl rfl rfl ?_ ?_);focus (first |omega|exact le_ rfl|((repeat first |rw [wrap_u8]|rw [IntKind.wrap_i64]|rw [IntKind.wrap_i32]|rw [wrap_u32']|rw [wrap_u64']);(repeat' refine And.intro ?_ ?_)<;>omega)|((repeat' refine And.intro ?_ ?_)<;>first |omega|rfl|exact Nat.le_refl _|exact le_ rfl|exact bytesF_one _)|(simp_all;done)|(simp_all;omega)))|refine e_hit rfl ?_|refine e_miss rfl ?_|with_reducible refine ⟨by kernel_rfl, ?_⟩|refine p_then ?_|refine p_block ?_|refine p_endR ⟨_, _, rfl, rfl, _, rfl⟩|((with_reducible refine c_grd ?_);(fail_if_success (refine c_lit true rfl rfl rfl ?_));(fail_if_success (refine c_lit false rfl rfl rfl ?_));refine c_split rfl rfl (fun _ => ?_) (fun _ => ?_)))


end Go.Proofs.YtbegohehjkjnmaaDoor.Flow
