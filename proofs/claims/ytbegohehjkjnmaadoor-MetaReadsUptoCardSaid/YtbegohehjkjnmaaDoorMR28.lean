/- The texts RJ9, one behind the other. -/
import Derived.Test.YtbegohehjkjnmaaDoorMR20
import Derived.Test.YtbegohehjkjnmaaDoorMR26
import Derived.Test.YtbegohehjkjnmaaDoorMR27
namespace Go.Proofs.YtbegohehjkjnmaaDoor.Flow
open Go

def rjD : JR → D
  | .inl (x, n) => .tu [.ag (jC x), .i .i64 n, .i .i64 0]
  | .inr (p, e) => .tu [.ag (jC j0), .i .i64 p, .i .i64 e]
theorem jC_j0 : jC j0 = [.i .i64 0, .b false, .b false, .s [], .i .i64 0, .s [], .sl 8 0 (jF []), .sl 1 0 (txF [])] := by
  unfold j0
  rw [jC_mk]
  rfl
theorem rj_err (p e : Int) : Weak (.tu [.ag j0C, .i .i64 p, .i .i64 e]) (.tu [.ag (jC j0), .i .i64 p, .i .i64 e]) := .tu3 (lit_weak 0 false) (.refl _) (.refl _)
theorem rj_lit (k : Int) (y : Bool) (n : Int) (m : Nat) (h : n = m) : Weak (.tu [.ag (litC k y), .i .i64 n, .i .i64 0]) (rjD (.inl (litJ k y, m))) := by
  subst h
  exact .tu3 (lit_weak k y) (.refl _) (.refl _)

def ErrOk (val : Nat → JR) : Prop := ∀ i p e, val i = .inr (p, e) → ¬ e = 0
theorem jpeek_err {s : List UInt8} {i p : Nat} {e : Int} (h : jpeek s i = .inr (p, e)) : ¬ e = 0 := by
  unfold jpeek at h
  split at h <;> cases h
  decide
theorem jtext_err {s : List UInt8} {i p : Nat} {e : Int} (h : jtext s i = .inr (p, e)) : ¬ e = 0 := by
  unfold jtext at h
  split at h
  · cases h
  · cases h
    assumption
theorem jnum_err {s : List UInt8} {i p : Nat} {e : Int} (h : jnum s i = .inr (p, e)) : ¬ e = 0 := by
  unfold jnum at h
  split at h
  · cases h
  · cases h
    assumption
theorem jkey_err {s : List UInt8} {i p : Nat} {ks : List (List UInt8)} {e : Int} (h : jkey s i ks = .inr (p, e)) : ¬ e = 0 := by
  unfold jkey at h
  cases h1 : jpeek s i with
  | inr x => rw [h1] at h; cases h; exact jpeek_err h1
  | inl j =>
    rw [h1] at h
    dsimp only at h
    split at h
    · cases h; decide
    · cases h2 : jtext s j with
      | inr x => rw [h2] at h; cases h; exact jtext_err h2
      | inl r =>
        obtain ⟨k, n⟩ := r
        rw [h2] at h
        dsimp only at h
        split at h
        · cases h; decide
        · cases h3 : jpeek s n with
          | inr x => rw [h3] at h; cases h; exact jpeek_err h3
          | inl m =>
            rw [h3] at h
            dsimp only at h
            split at h <;> cases h
            decide
theorem jgo_err {s : List UInt8} {val : Nat → JR} (hv : ErrOk val) {mp : Bool} : ∀ (m i : Nat) (l : List J) (ks : List (List UInt8)) (p : Nat) (e : Int), s.length - i < m → jgo s val mp i l ks = .inr (p, e) → ¬ e = 0 := by
  intro m
  induction m with
  | zero => intro i l ks p e hm h; omega
  | succ m ih =>
    intro i l ks p e hm h
    rw [jgo] at h
    cases h1 : jkeys s mp i ks with
    | inr x =>
      rw [h1] at h
      cases h
      unfold jkeys at h1
      split at h1
      · cases h2 : jkey s i ks with
        | inr x => rw [h2] at h1; cases h1; exact jkey_err h2
        | inl r => rw [h2] at h1; cases h1
      · cases h1
    | inl r =>
      obtain ⟨ks', i1⟩ := r
      rw [h1] at h
      dsimp only at h
      cases h2 : val i1 with
      | inr x => rw [h2] at h; cases h; exact hv _ _ _ h2
      | inl r =>
        obtain ⟨y, i2⟩ := r
        rw [h2] at h
        dsimp only at h
        cases h3 : jpeek s i2 with
        | inr x => rw [h3] at h; cases h; exact jpeek_err h3
        | inl i3 =>
          rw [h3] at h
          dsimp only at h
          split at h
          · cases h
          · split at h
            · split at h
              · exact ih _ _ _ _ _ (by omega) h
              · cases h; decide
            · cases h; decide
theorem jmany_err {s : List UInt8} {val : Nat → JR} (hv : ErrOk val) {mp : Bool} {i p : Nat} {e : Int} (h : jmany s val mp i = .inr (p, e)) : ¬ e = 0 := by
  unfold jmany at h
  cases h1 : jpeek s (i + 1) with
  | inr x => rw [h1] at h; cases h; exact jpeek_err h1
  | inl j =>
    rw [h1] at h
    dsimp only at h
    split at h
    · cases h
    · exact jgo_err hv _ _ _ _ _ _ (Nat.lt_succ_self _) h
theorem jval_err (s : List UInt8) : ∀ d, ErrOk (jval s d) := by
  intro d
  induction d with
  | zero =>
    intro i p e h
    unfold jval at h
    cases h1 : jpeek s i with
    | inr x => rw [h1] at h; cases h; exact jpeek_err h1
    | inl j => rw [h1] at h; cases h; decide
  | succ d ih =>
    intro i p e h
    unfold jval at h
    cases h1 : jpeek s i with
    | inr x => rw [h1] at h; cases h; exact jpeek_err h1
    | inl j =>
      rw [h1] at h
      dsimp only at h
      unfold jword at h
      split at h
      · split at h <;> cases h
        decide
      · split at h
        · split at h <;> cases h
          decide
        · split at h
          · split at h <;> cases h
            decide
          · split at h
            · cases h2 : jtext s j with
              | inr x => rw [h2] at h; cases h; exact jtext_err h2
              | inl r => rw [h2] at h; cases h
            · split at h
              · exact jmany_err ih h
              · split at h
                · exact jmany_err ih h
                · exact jnum_err h

theorem rjD_free (r : JR) : (rjD r).free = true := by
  unfold rjD
  cases r with
  | inl r =>
    obtain ⟨⟨k, y, n, d, e, t, l, ks⟩, m⟩ := r
    dsimp only
    rw [jC_mk]
    rfl
  | inr e =>
    obtain ⟨p, e⟩ := e
    dsimp only
    rw [jC_j0]
    rfl
theorem prefix_first {s : List UInt8} {j : Nat} {c : UInt8} {w : List UInt8} (h : Lib.hasPrefix (s.drop j) (c :: w) = true) : at' s j = c.toNat := by
  unfold Lib.hasPrefix at h
  rw [List.isPrefixOf_iff_prefix] at h
  obtain ⟨r, h⟩ := h
  show ((s.getD j 0).toNat : Int) = c.toNat
  have e : s.getD j 0 = (s.drop j).getD 0 0 := by simp [List.getD_eq_getElem?_getD]
  rw [e, ← h]
  rfl
theorem jval_doc (s : List UInt8) (d j : Nat) : (if at' s j = 110 then jword s j nullW j0
        else if at' s j = 116 then jword s j trueW (.mk 1 true false [] 0 [] [] [])
        else if at' s j = 102 then jword s j falseW (.mk 1 false false [] 0 [] [] [])
        else if at' s j = 34 then (match jtext s j with
          | .inl (t, n) => .inl (.mk 3 false false [] 0 t [] [], n)
          | .inr e => .inr e)
        else if at' s j = 91 then jmany s (jval s d) false j
        else if at' s j = 123 then jmany s (jval s d) true j
        else jnum s j : JR) = if at' s j = 34 then (match jtext s j with
          | .inl (t, n) => .inl (.mk 3 false false [] 0 t [] [], n)
          | .inr e => .inr e)
        else if at' s j = 91 then jmany s (jval s d) false j
        else if at' s j = 123 then jmany s (jval s d) true j
        else if Lib.hasPrefix (s.drop j) nullW = true then .inl (litJ 0 false, j + 4)
        else if Lib.hasPrefix (s.drop j) trueW = true then .inl (litJ 1 true, j + 4)
        else if Lib.hasPrefix (s.drop j) falseW = true then .inl (litJ 1 false, j + 5)
        else jnum s j := by
  have f1 : Lib.hasPrefix (s.drop j) nullW = true → at' s j = 110 := fun h => prefix_first h
  have f2 : Lib.hasPrefix (s.drop j) trueW = true → at' s j = 116 := fun h => prefix_first h
  have f3 : Lib.hasPrefix (s.drop j) falseW = true → at' s j = 102 := fun h => prefix_first h
  have hl := @jnum_letter s j
  unfold jword
  by_cases b0 : at' s j = 110
  · rw [if_pos b0, if_neg (show ¬ at' s j = 34 by omega), if_neg (show ¬ at' s j = 91 by omega), if_neg (show ¬ at' s j = 123 by omega)]
    by_cases p1 : Lib.hasPrefix (s.drop j) nullW = true
    · rw [if_pos p1, if_pos p1]
      rfl
    · rw [if_neg p1, if_neg p1, if_neg (fun q => by have := f2 q; omega), if_neg (fun q => by have := f3 q; omega), hl (.inl b0)]
  by_cases b1 : at' s j = 116
  · rw [if_neg b0, if_pos b1, if_neg (show ¬ at' s j = 34 by omega), if_neg (show ¬ at' s j = 91 by omega), if_neg (show ¬ at' s j = 123 by omega), if_neg (fun q => b0 (f1 q))]
    by_cases p1 : Lib.hasPrefix (s.drop j) trueW = true
    · rw [if_pos p1, if_pos p1]
      rfl
    · rw [if_neg p1, if_neg p1, if_neg (fun q => by have := f3 q; omega), hl (.inr (.inl b1))]
  by_cases b2 : at' s j = 102
  · rw [if_neg b0, if_neg b1, if_pos b2, if_neg (show ¬ at' s j = 34 by omega), if_neg (show ¬ at' s j = 91 by omega), if_neg (show ¬ at' s j = 123 by omega), if_neg (fun q => b0 (f1 q)), if_neg (fun q => b1 (f2 q))]
    by_cases p1 : Lib.hasPrefix (s.drop j) falseW = true
    · rw [if_pos p1, if_pos p1]
      rfl
    · rw [if_neg p1, if_neg p1, hl (.inr (.inr b2))]
  rw [if_neg b0, if_neg b1, if_neg b2, if_neg (fun q => b0 (f1 q)), if_neg (fun q => b1 (f2 q)), if_neg (fun q => b2 (f3 q))]
theorem jval_more {s : List UInt8} {d i j : Nat} (hj : skN s i = j) (h : j < s.length) : jval s (d + 1) i = if at' s j = 34 then (match jtext s j with
          | .inl (t, n) => .inl (.mk 3 false false [] 0 t [] [], n)
          | .inr e => .inr e)
        else if at' s j = 91 then jmany s (jval s d) false j
        else if at' s j = 123 then jmany s (jval s d) true j
        else if Lib.hasPrefix (s.drop j) nullW = true then .inl (litJ 0 false, j + 4)
        else if Lib.hasPrefix (s.drop j) trueW = true then .inl (litJ 1 true, j + 4)
        else if Lib.hasPrefix (s.drop j) falseW = true then .inl (litJ 1 false, j + 5)
        else jnum s j := by
  subst hj
  rw [← jval_doc]
  conv => lhs; unfold jval jpeek
  rw [if_pos h]
  rfl
theorem jval_none {s : List UInt8} {d i j : Nat} (hj : skN s i = j) (h : ¬ j < s.length) : jval s d i = .inr (j, 2) := by
  subst hj
  unfold jval jpeek
  rw [if_neg h]
theorem jval_deep {s : List UInt8} {i j : Nat} (hj : skN s i = j) (h : j < s.length) : jval s 0 i = .inr (j, 9) := by
  subst hj
  unfold jval jpeek
  rw [if_pos h]

set_option maxRecDepth 100000 in
set_option maxHeartbeats 8000000 in
theorem rvalue_of (s : List UInt8) (hs : s.length ≤ 5000) (d : Nat) (_hd : d ≤ 100) (hmany : ∀ j, j < s.length → (at' s j = 91 → Ctr Tryd.prog 46 [.s s, .i .i64 j, .i .i64 (d + 1 : Nat)] (rjD (jmany s (jval s d) false j))) ∧ (at' s j = 123 → Ctr Tryd.prog 46 [.s s, .i .i64 j, .i .i64 (d + 1 : Nat)] (rjD (jmany s (jval s d) true j)))) (i : Nat) (hi : i ≤ s.length) :
    Ctr Tryd.prog 28 [.s s, .i .i64 i, .i .i64 (d + 1 : Nat)] (rjD (jval s (d + 1) i)) := by
  have c1 := rskip_ctr s i (by omega) hi
  have hle := skN_le hi
  generalize hji : skN s i = j at *
  by_cases hj : j < s.length
  · rw [jval_more hji hj]
    have w1 := begins_ctr s nullW j (by omega) (by decide) (by omega)
    have w2 := begins_ctr s trueW j (by omega) (by decide) (by omega)
    have w3 := begins_ctr s falseW j (by omega) (by decide) (by omega)
    have hm := hmany j hj
    clear hmany
    by_cases b3 : at' s j = 34
    · rw [if_pos b3]
      clear w1 w2 w3 hm
      have u1 := runq_ctr s j (by omega)
      have hn := @unq_next s j
      unfold jtext
      generalize unqF s j = R at *
      obtain ⟨t, n, e⟩ := R
      dsimp only at hn u1 ⊢
      by_cases h : e = 0
      · rw [if_pos h]
        have hn := hn h
        subst h
        obtain ⟨n', rfl⟩ : ∃ n' : Nat, n = n' := ⟨n.toNat, by omega⟩
        rw [Int.toNat_natCast]
        refine r_fun Tryd.func28 rfl Tryd.ntmps28 Tryd.results28 rfl (rjD_free _) fun X hL hX => ?_
        repeat' (first |refine r_call (f := 29) rfl rfl Tryd.call29 rfl c1 ?_|refine r_call (f := 45) rfl rfl Tryd.call45 rfl u1 ?_|with_reducible (first |refine t_seq ?_|refine t_region ?_|refine c_nil ?_|refine n_then ?_|refine t_ret ?_|refine t_skip ?_|refine t_exit ?_|refine t_block ?_|refine n_block ?_|refine e_then ?_|refine x_then ?_|refine x_block ?_|refine t_draw ?_)|refine r_val rfl rfl True.intro ?_|refine r_gskip rfl rfl rfl ?_|refine r_gskip2 rfl rfl rfl ?_|refine r_gval rfl rfl rfl rfl True.intro ?_|refine t_true rfl ?_|refine t_false rfl ?_|((first |refine t_cond_d rfl ?_ ?_|refine t_cond_i rfl ?_ ?_|refine t_cond_j rfl ?_ ?_|refine t_cond_s rfl ?_ ?_|refine t_cond_n rfl ?_ ?_|refine t_cond rfl ?_ ?_|refine c_split_d rfl rfl ?_ ?_|refine c_split_i rfl rfl ?_ ?_|refine c_split_j rfl rfl ?_ ?_|refine c_split_s rfl rfl ?_ ?_|refine c_split_n rfl rfl ?_ ?_)<;>intro<;>try (first |(rename_i hz;first |exact tf_ hz|exact ft_ hz)|(exfalso;omega)))|((first |refine r_val rfl rfl ?_ ?_|refine r_gval rfl rfl rfl rfl ?_ ?_|refine r_obj rfl rfl ?_ ?_|refine r_sto rfl ?_ ?_|refine r_gobj rfl rfl rfl rfl ?_ ?_);focus (first |omega|exact le_ rfl|((repeat first |rw [wrap_u8]|rw [IntKind.wrap_i64]|rw [IntKind.wrap_i32]|rw [wrap_u32']|rw [wrap_u64']);(repeat' refine And.intro ?_ ?_)<;>omega)|((repeat' refine And.intro ?_ ?_)<;>first |omega|rfl|exact Nat.le_refl _|exact le_ rfl|exact bytesF_one _)|(simp_all;done)|(simp_all;omega)))|refine e_hit rfl ?_|refine e_miss rfl ?_|with_reducible refine ⟨by kernel_rfl, ?_⟩|refine x_endw rfl ?_|((with_reducible refine c_grd ?_);(fail_if_success (refine c_lit true rfl rfl rfl ?_));(fail_if_success (refine c_lit false rfl rfl rfl ?_));refine c_split rfl rfl (fun _ => ?_) (fun _ => ?_)))
        all_goals exact .tu3 (cells_weak 3 false false [] 0 t) (.refl _) (.refl _)
      · rw [if_neg h]
        refine r_fun Tryd.func28 rfl Tryd.ntmps28 Tryd.results28 rfl (rjD_free _) fun X hL hX => ?_
        repeat' (first |refine r_call (f := 29) rfl rfl Tryd.call29 rfl c1 ?_|refine r_call (f := 45) rfl rfl Tryd.call45 rfl u1 ?_|with_reducible (first |refine t_seq ?_|refine t_region ?_|refine c_nil ?_|refine n_then ?_|refine t_ret ?_|refine t_skip ?_|refine t_exit ?_|refine t_block ?_|refine n_block ?_|refine e_then ?_|refine x_then ?_|refine x_block ?_|refine t_draw ?_)|refine r_val rfl rfl True.intro ?_|refine r_gskip rfl rfl rfl ?_|refine r_gskip2 rfl rfl rfl ?_|refine r_gval rfl rfl rfl rfl True.intro ?_|refine t_true rfl ?_|refine t_false rfl ?_|((first |refine t_cond_d rfl ?_ ?_|refine t_cond_i rfl ?_ ?_|refine t_cond_j rfl ?_ ?_|refine t_cond_s rfl ?_ ?_|refine t_cond_n rfl ?_ ?_|refine t_cond rfl ?_ ?_|refine c_split_d rfl rfl ?_ ?_|refine c_split_i rfl rfl ?_ ?_|refine c_split_j rfl rfl ?_ ?_|refine c_split_s rfl rfl ?_ ?_|refine c_split_n rfl rfl ?_ ?_)<;>intro<;>try (first |(rename_i hz;first |exact tf_ hz|exact ft_ hz)|(exfalso;omega)))|((first |refine r_val rfl rfl ?_ ?_|refine r_gval rfl rfl rfl rfl ?_ ?_|refine r_obj rfl rfl ?_ ?_|refine r_sto rfl ?_ ?_|refine r_gobj rfl rfl rfl rfl ?_ ?_);focus (first |omega|exact le_ rfl|((repeat first |rw [wrap_u8]|rw [IntKind.wrap_i64]|rw [IntKind.wrap_i32]|rw [wrap_u32']|rw [wrap_u64']);(repeat' refine And.intro ?_ ?_)<;>omega)|((repeat' refine And.intro ?_ ?_)<;>first |omega|rfl|exact Nat.le_refl _|exact le_ rfl|exact bytesF_one _)|(simp_all;done)|(simp_all;omega)))|refine e_hit rfl ?_|refine e_miss rfl ?_|with_reducible refine ⟨by kernel_rfl, ?_⟩|refine x_endw rfl ?_|((with_reducible refine c_grd ?_);(fail_if_success (refine c_lit true rfl rfl rfl ?_));(fail_if_success (refine c_lit false rfl rfl rfl ?_));refine c_split rfl rfl (fun _ => ?_) (fun _ => ?_)))
        all_goals exact rj_err _ _
    rw [if_neg b3]
    by_cases b4 : at' s j = 91
    · rw [if_pos b4]
      clear w1 w2 w3
      have hm := hm.1 b4
      cases h2 : jmany s (jval s d) false j with
      | inr e =>
        obtain ⟨p, e⟩ := e
        rw [h2] at hm
        unfold rjD at hm
        dsimp only at hm
        rw [jC_j0] at hm
        refine r_fun Tryd.func28 rfl Tryd.ntmps28 Tryd.results28 rfl (rjD_free _) fun X hL hX => ?_
        repeat' (first |refine r_call (f := 29) rfl rfl Tryd.call29 rfl c1 ?_|refine r_call (f := 46) rfl rfl Tryd.call46 rfl hm ?_|with_reducible (first |refine t_seq ?_|refine t_region ?_|refine c_nil ?_|refine n_then ?_|refine t_ret ?_|refine t_skip ?_|refine t_exit ?_|refine t_block ?_|refine n_block ?_|refine e_then ?_|refine x_then ?_|refine x_block ?_|refine t_draw ?_)|refine r_val rfl rfl True.intro ?_|refine r_gskip rfl rfl rfl ?_|refine r_gskip2 rfl rfl rfl ?_|refine r_gval rfl rfl rfl rfl True.intro ?_|refine t_true rfl ?_|refine t_false rfl ?_|((first |refine t_cond_d rfl ?_ ?_|refine t_cond_i rfl ?_ ?_|refine t_cond_j rfl ?_ ?_|refine t_cond_s rfl ?_ ?_|refine t_cond_n rfl ?_ ?_|refine t_cond rfl ?_ ?_|refine c_split_d rfl rfl ?_ ?_|refine c_split_i rfl rfl ?_ ?_|refine c_split_j rfl rfl ?_ ?_|refine c_split_s rfl rfl ?_ ?_|refine c_split_n rfl rfl ?_ ?_)<;>intro<;>try (first |(rename_i hz;first |exact tf_ hz|exact ft_ hz)|(exfalso;omega)))|((first |refine r_val rfl rfl ?_ ?_|refine r_gval rfl rfl rfl rfl ?_ ?_|refine r_obj rfl rfl ?_ ?_|refine r_sto rfl ?_ ?_|refine r_gobj rfl rfl rfl rfl ?_ ?_);focus (first |omega|exact le_ rfl|((repeat first |rw [wrap_u8]|rw [IntKind.wrap_i64]|rw [IntKind.wrap_i32]|rw [wrap_u32']|rw [wrap_u64']);(repeat' refine And.intro ?_ ?_)<;>omega)|((repeat' refine And.intro ?_ ?_)<;>first |omega|rfl|exact Nat.le_refl _|exact le_ rfl|exact bytesF_one _)|(simp_all;done)|(simp_all;omega)))|refine e_hit rfl ?_|refine e_miss rfl ?_|with_reducible refine ⟨by kernel_rfl, ?_⟩|refine x_endw rfl ?_|((with_reducible refine c_grd ?_);(fail_if_success (refine c_lit true rfl rfl rfl ?_));(fail_if_success (refine c_lit false rfl rfl rfl ?_));refine c_split rfl rfl (fun _ => ?_) (fun _ => ?_)))
        all_goals exact .of_eq (by unfold rjD; dsimp only; rw [jC_j0]; rfl)
      | inl r =>
        obtain ⟨⟨xk, xy, xn, xd, xe, xt, xl, xs⟩, n⟩ := r
        rw [h2] at hm
        unfold rjD at hm
        dsimp only at hm
        rw [jC_mk] at hm
        refine r_fun Tryd.func28 rfl Tryd.ntmps28 Tryd.results28 rfl (rjD_free _) fun X hL hX => ?_
        repeat' (first |refine r_call (f := 29) rfl rfl Tryd.call29 rfl c1 ?_|refine r_call (f := 46) rfl rfl Tryd.call46 rfl hm ?_|with_reducible (first |refine t_seq ?_|refine t_region ?_|refine c_nil ?_|refine n_then ?_|refine t_ret ?_|refine t_skip ?_|refine t_exit ?_|refine t_block ?_|refine n_block ?_|refine e_then ?_|refine x_then ?_|refine x_block ?_|refine t_draw ?_)|refine r_val rfl rfl True.intro ?_|refine r_gskip rfl rfl rfl ?_|refine r_gskip2 rfl rfl rfl ?_|refine r_gval rfl rfl rfl rfl True.intro ?_|refine t_true rfl ?_|refine t_false rfl ?_|((first |refine t_cond_d rfl ?_ ?_|refine t_cond_i rfl ?_ ?_|refine t_cond_j rfl ?_ ?_|refine t_cond_s rfl ?_ ?_|refine t_cond_n rfl ?_ ?_|refine t_cond rfl ?_ ?_|refine c_split_d rfl rfl ?_ ?_|refine c_split_i rfl rfl ?_ ?_|refine c_split_j rfl rfl ?_ ?_|refine c_split_s rfl rfl ?_ ?_|refine c_split_n rfl rfl ?_ ?_)<;>intro<;>try (first |(rename_i hz;first |exact tf_ hz|exact ft_ hz)|(exfalso;omega)))|((first |refine r_val rfl rfl ?_ ?_|refine r_gval rfl rfl rfl rfl ?_ ?_|refine r_obj rfl rfl ?_ ?_|refine r_sto rfl ?_ ?_|refine r_gobj rfl rfl rfl rfl ?_ ?_);focus (first |omega|exact le_ rfl|((repeat first |rw [wrap_u8]|rw [IntKind.wrap_i64]|rw [IntKind.wrap_i32]|rw [wrap_u32']|rw [wrap_u64']);(repeat' refine And.intro ?_ ?_)<;>omega)|((repeat' refine And.intro ?_ ?_)<;>first |omega|rfl|exact Nat.le_refl _|exact le_ rfl|exact bytesF_one _)|(simp_all;done)|(simp_all;omega)))|refine e_hit rfl ?_|refine e_miss rfl ?_|with_reducible refine ⟨by kernel_rfl, ?_⟩|refine x_endw rfl ?_|((with_reducible refine c_grd ?_);(fail_if_success (refine c_lit true rfl rfl rfl ?_));(fail_if_success (refine c_lit false rfl rfl rfl ?_));refine c_split rfl rfl (fun _ => ?_) (fun _ => ?_)))
        all_goals exact .of_eq (by unfold rjD; dsimp only; rw [jC_mk]; rfl)
    rw [if_neg b4]
    by_cases b5 : at' s j = 123
    · rw [if_pos b5]
      clear w1 w2 w3
      have hm := hm.2 b5
      cases h2 : jmany s (jval s d) true j with
      | inr e =>
        obtain ⟨p, e⟩ := e
        rw [h2] at hm
        unfold rjD at hm
        dsimp only at hm
        rw [jC_j0] at hm
        refine r_fun Tryd.func28 rfl Tryd.ntmps28 Tryd.results28 rfl (rjD_free _) fun X hL hX => ?_
        repeat' (first |refine r_call (f := 29) rfl rfl Tryd.call29 rfl c1 ?_|refine r_call (f := 46) rfl rfl Tryd.call46 rfl hm ?_|with_reducible (first |refine t_seq ?_|refine t_region ?_|refine c_nil ?_|refine n_then ?_|refine t_ret ?_|refine t_skip ?_|refine t_exit ?_|refine t_block ?_|refine n_block ?_|refine e_then ?_|refine x_then ?_|refine x_block ?_|refine t_draw ?_)|refine r_val rfl rfl True.intro ?_|refine r_gskip rfl rfl rfl ?_|refine r_gskip2 rfl rfl rfl ?_|refine r_gval rfl rfl rfl rfl True.intro ?_|refine t_true rfl ?_|refine t_false rfl ?_|((first |refine t_cond_d rfl ?_ ?_|refine t_cond_i rfl ?_ ?_|refine t_cond_j rfl ?_ ?_|refine t_cond_s rfl ?_ ?_|refine t_cond_n rfl ?_ ?_|refine t_cond rfl ?_ ?_|refine c_split_d rfl rfl ?_ ?_|refine c_split_i rfl rfl ?_ ?_|refine c_split_j rfl rfl ?_ ?_|refine c_split_s rfl rfl ?_ ?_|refine c_split_n rfl rfl ?_ ?_)<;>intro<;>try (first |(rename_i hz;first |exact tf_ hz|exact ft_ hz)|(exfalso;omega)))|((first |refine r_val rfl rfl ?_ ?_|refine r_gval rfl rfl rfl rfl ?_ ?_|refine r_obj rfl rfl ?_ ?_|refine r_sto rfl ?_ ?_|refine r_gobj rfl rfl rfl rfl ?_ ?_);focus (first |omega|exact le_ rfl|((repeat first |rw [wrap_u8]|rw [IntKind.wrap_i64]|rw [IntKind.wrap_i32]|rw [wrap_u32']|rw [wrap_u64']);(repeat' refine And.intro ?_ ?_)<;>omega)|((repeat' refine And.intro ?_ ?_)<;>first |omega|rfl|exact Nat.le_refl _|exact le_ rfl|exact bytesF_one _)|(simp_all;done)|(simp_all;omega)))|refine e_hit rfl ?_|refine e_miss rfl ?_|with_reducible refine ⟨by kernel_rfl, ?_⟩|refine x_endw rfl ?_|((with_reducible refine c_grd ?_);(fail_if_success (refine c_lit true rfl rfl rfl ?_));(fail_if_success (refine c_lit false rfl rfl rfl ?_));refine c_split rfl rfl (fun _ => ?_) (fun _ => ?_)))
        all_goals exact .of_eq (by unfold rjD; dsimp only; rw [jC_j0]; rfl)
      | inl r =>
        obtain ⟨⟨xk, xy, xn, xd, xe, xt, xl, xs⟩, n⟩ := r
        rw [h2] at hm
        unfold rjD at hm
        dsimp only at hm
        rw [jC_mk] at hm
        refine r_fun Tryd.func28 rfl Tryd.ntmps28 Tryd.results28 rfl (rjD_free _) fun X hL hX => ?_
        repeat' (first |refine r_call (f := 29) rfl rfl Tryd.call29 rfl c1 ?_|refine r_call (f := 46) rfl rfl Tryd.call46 rfl hm ?_|with_reducible (first |refine t_seq ?_|refine t_region ?_|refine c_nil ?_|refine n_then ?_|refine t_ret ?_|refine t_skip ?_|refine t_exit ?_|refine t_block ?_|refine n_block ?_|refine e_then ?_|refine x_then ?_|refine x_block ?_|refine t_draw ?_)|refine r_val rfl rfl True.intro ?_|refine r_gskip rfl rfl rfl ?_|refine r_gskip2 rfl rfl rfl ?_|refine r_gval rfl rfl rfl rfl True.intro ?_|refine t_true rfl ?_|refine t_false rfl ?_|((first |refine t_cond_d rfl ?_ ?_|refine t_cond_i rfl ?_ ?_|refine t_cond_j rfl ?_ ?_|refine t_cond_s rfl ?_ ?_|refine t_cond_n rfl ?_ ?_|refine t_cond rfl ?_ ?_|refine c_split_d rfl rfl ?_ ?_|refine c_split_i rfl rfl ?_ ?_|refine c_split_j rfl rfl ?_ ?_|refine c_split_s rfl rfl ?_ ?_|refine c_split_n rfl rfl ?_ ?_)<;>intro<;>try (first |(rename_i hz;first |exact tf_ hz|exact ft_ hz)|(exfalso;omega)))|((first |refine r_val rfl rfl ?_ ?_|refine r_gval rfl rfl rfl rfl ?_ ?_|refine r_obj rfl rfl ?_ ?_|refine r_sto rfl ?_ ?_|refine r_gobj rfl rfl rfl rfl ?_ ?_);focus (first |omega|exact le_ rfl|((repeat first |rw [wrap_u8]|rw [IntKind.wrap_i64]|rw [IntKind.wrap_i32]|rw [wrap_u32']|rw [wrap_u64']);(repeat' refine And.intro ?_ ?_)<;>omega)|((repeat' refine And.intro ?_ ?_)<;>first |omega|rfl|exact Nat.le_refl _|exact le_ rfl|exact bytesF_one _)|(simp_all;done)|(simp_all;omega)))|refine e_hit rfl ?_|refine e_miss rfl ?_|with_reducible refine ⟨by kernel_rfl, ?_⟩|refine x_endw rfl ?_|((with_reducible refine c_grd ?_);(fail_if_success (refine c_lit true rfl rfl rfl ?_));(fail_if_success (refine c_lit false rfl rfl rfl ?_));refine c_split rfl rfl (fun _ => ?_) (fun _ => ?_)))
        all_goals exact .of_eq (by unfold rjD; dsimp only; rw [jC_mk]; rfl)
    rw [if_neg b5]
    clear hm
    have c4 : Ctr Tryd.prog 48 [.s (List.drop (j : Int).toNat (List.take (s.length : Int).toNat s))] (.tu [dcV (parseG powP (s.drop j)).1, .i .i64 (parseG powP (s.drop j)).2.1, .i .i64 (parseG powP (s.drop j)).2.2]) := by
      rw [take_all, parse_same _ (by rw [List.length_drop]; omega)]
      exact rparse_ctr _ (by rw [List.length_drop]; omega)
    have hn := num_next powP (s.drop j)
    rw [List.length_drop] at hn
    unfold jnum
    generalize parseG powP (s.drop j) = R at *
    obtain ⟨⟨ng, dg, ex⟩, n, e⟩ := R
    dsimp only at hn c4 ⊢
    cases p1 : Lib.hasPrefix (s.drop j) nullW with
    | true =>
      rw [p1] at w1
      rw [if_pos rfl]
      refine r_fun Tryd.func28 rfl Tryd.ntmps28 Tryd.results28 rfl (rjD_free _) fun X hL hX => ?_
      repeat' (first |refine r_call (f := 29) rfl rfl Tryd.call29 rfl c1 ?_|refine r_call (f := 47) rfl rfl Tryd.call47 rfl w1 ?_|with_reducible (first |refine t_seq ?_|refine t_region ?_|refine c_nil ?_|refine n_then ?_|refine t_ret ?_|refine t_skip ?_|refine t_exit ?_|refine t_block ?_|refine n_block ?_|refine e_then ?_|refine x_then ?_|refine x_block ?_|refine t_draw ?_)|refine r_val rfl rfl True.intro ?_|refine r_gskip rfl rfl rfl ?_|refine r_gskip2 rfl rfl rfl ?_|refine r_gval rfl rfl rfl rfl True.intro ?_|refine t_true rfl ?_|refine t_false rfl ?_|((first |refine t_cond_d rfl ?_ ?_|refine t_cond_i rfl ?_ ?_|refine t_cond_j rfl ?_ ?_|refine t_cond_s rfl ?_ ?_|refine t_cond_n rfl ?_ ?_|refine t_cond rfl ?_ ?_|refine c_split_d rfl rfl ?_ ?_|refine c_split_i rfl rfl ?_ ?_|refine c_split_j rfl rfl ?_ ?_|refine c_split_s rfl rfl ?_ ?_|refine c_split_n rfl rfl ?_ ?_)<;>intro<;>try (first |(rename_i hz;first |exact tf_ hz|exact ft_ hz)|(exfalso;omega)))|((first |refine r_val rfl rfl ?_ ?_|refine r_gval rfl rfl rfl rfl ?_ ?_|refine r_obj rfl rfl ?_ ?_|refine r_sto rfl ?_ ?_|refine r_gobj rfl rfl rfl rfl ?_ ?_);focus (first |omega|exact le_ rfl|((repeat first |rw [wrap_u8]|rw [IntKind.wrap_i64]|rw [IntKind.wrap_i32]|rw [wrap_u32']|rw [wrap_u64']);(repeat' refine And.intro ?_ ?_)<;>omega)|((repeat' refine And.intro ?_ ?_)<;>first |omega|rfl|exact Nat.le_refl _|exact le_ rfl|exact bytesF_one _)|(simp_all;done)|(simp_all;omega)))|refine e_hit rfl ?_|refine e_miss rfl ?_|with_reducible refine ⟨by kernel_rfl, ?_⟩|refine x_endw rfl ?_|((with_reducible refine c_grd ?_);(fail_if_success (refine c_lit true rfl rfl rfl ?_));(fail_if_success (refine c_lit false rfl rfl rfl ?_));refine c_split rfl rfl (fun _ => ?_) (fun _ => ?_)))
      all_goals exact rj_lit 0 false _ _ (by omega)
    | false =>
      rw [p1] at w1
      rw [if_neg Bool.false_ne_true]
      cases p2 : Lib.hasPrefix (s.drop j) trueW with
      | true =>
        rw [p2] at w2
        rw [if_pos rfl]
        refine r_fun Tryd.func28 rfl Tryd.ntmps28 Tryd.results28 rfl (rjD_free _) fun X hL hX => ?_
        repeat' (first |refine r_call (f := 29) rfl rfl Tryd.call29 rfl c1 ?_|refine r_call (f := 47) rfl rfl Tryd.call47 rfl w1 ?_|refine r_call (f := 47) rfl rfl Tryd.call47 rfl w2 ?_|with_reducible (first |refine t_seq ?_|refine t_region ?_|refine c_nil ?_|refine n_then ?_|refine t_ret ?_|refine t_skip ?_|refine t_exit ?_|refine t_block ?_|refine n_block ?_|refine e_then ?_|refine x_then ?_|refine x_block ?_|refine t_draw ?_)|refine r_val rfl rfl True.intro ?_|refine r_gskip rfl rfl rfl ?_|refine r_gskip2 rfl rfl rfl ?_|refine r_gval rfl rfl rfl rfl True.intro ?_|refine t_true rfl ?_|refine t_false rfl ?_|((first |refine t_cond_d rfl ?_ ?_|refine t_cond_i rfl ?_ ?_|refine t_cond_j rfl ?_ ?_|refine t_cond_s rfl ?_ ?_|refine t_cond_n rfl ?_ ?_|refine t_cond rfl ?_ ?_|refine c_split_d rfl rfl ?_ ?_|refine c_split_i rfl rfl ?_ ?_|refine c_split_j rfl rfl ?_ ?_|refine c_split_s rfl rfl ?_ ?_|refine c_split_n rfl rfl ?_ ?_)<;>intro<;>try (first |(rename_i hz;first |exact tf_ hz|exact ft_ hz)|(exfalso;omega)))|((first |refine r_val rfl rfl ?_ ?_|refine r_gval rfl rfl rfl rfl ?_ ?_|refine r_obj rfl rfl ?_ ?_|refine r_sto rfl ?_ ?_|refine r_gobj rfl rfl rfl rfl ?_ ?_);focus (first |omega|exact le_ rfl|((repeat first |rw [wrap_u8]|rw [IntKind.wrap_i64]|rw [IntKind.wrap_i32]|rw [wrap_u32']|rw [wrap_u64']);(repeat' refine And.intro ?_ ?_)<;>omega)|((repeat' refine And.intro ?_ ?_)<;>first |omega|rfl|exact Nat.le_refl _|exact le_ rfl|exact bytesF_one _)|(simp_all;done)|(simp_all;omega)))|refine e_hit rfl ?_|refine e_miss rfl ?_|with_reducible refine ⟨by kernel_rfl, ?_⟩|refine x_endw rfl ?_|((with_reducible refine c_grd ?_);(fail_if_success (refine c_lit true rfl rfl rfl ?_));(fail_if_success (refine c_lit false rfl rfl rfl ?_));refine c_split rfl rfl (fun _ => ?_) (fun _ => ?_)))
        all_goals exact rj_lit 1 true _ _ (by omega)
      | false =>
        rw [p2] at w2
        rw [if_neg Bool.false_ne_true]
        cases p3 : Lib.hasPrefix (s.drop j) falseW with
        | true =>
          rw [p3] at w3
          rw [if_pos rfl]
          refine r_fun Tryd.func28 rfl Tryd.ntmps28 Tryd.results28 rfl (rjD_free _) fun X hL hX => ?_
          repeat' (first |refine r_call (f := 29) rfl rfl Tryd.call29 rfl c1 ?_|refine r_call (f := 47) rfl rfl Tryd.call47 rfl w1 ?_|refine r_call (f := 47) rfl rfl Tryd.call47 rfl w2 ?_|refine r_call (f := 47) rfl rfl Tryd.call47 rfl w3 ?_|with_reducible (first |refine t_seq ?_|refine t_region ?_|refine c_nil ?_|refine n_then ?_|refine t_ret ?_|refine t_skip ?_|refine t_exit ?_|refine t_block ?_|refine n_block ?_|refine e_then ?_|refine x_then ?_|refine x_block ?_|refine t_draw ?_)|refine r_val rfl rfl True.intro ?_|refine r_gskip rfl rfl rfl ?_|refine r_gskip2 rfl rfl rfl ?_|refine r_gval rfl rfl rfl rfl True.intro ?_|refine t_true rfl ?_|refine t_false rfl ?_|((first |refine t_cond_d rfl ?_ ?_|refine t_cond_i rfl ?_ ?_|refine t_cond_j rfl ?_ ?_|refine t_cond_s rfl ?_ ?_|refine t_cond_n rfl ?_ ?_|refine t_cond rfl ?_ ?_|refine c_split_d rfl rfl ?_ ?_|refine c_split_i rfl rfl ?_ ?_|refine c_split_j rfl rfl ?_ ?_|refine c_split_s rfl rfl ?_ ?_|refine c_split_n rfl rfl ?_ ?_)<;>intro<;>try (first |(rename_i hz;first |exact tf_ hz|exact ft_ hz)|(exfalso;omega)))|((first |refine r_val rfl rfl ?_ ?_|refine r_gval rfl rfl rfl rfl ?_ ?_|refine r_obj rfl rfl ?_ ?_|refine r_sto rfl ?_ ?_|refine r_gobj rfl rfl rfl rfl ?_ ?_);focus (first |omega|exact le_ rfl|((repeat first |rw [wrap_u8]|rw [IntKind.wrap_i64]|rw [IntKind.wrap_i32]|rw [wrap_u32']|rw [wrap_u64']);(repeat' refine And.intro ?_ ?_)<;>omega)|((repeat' refine And.intro ?_ ?_)<;>first |omega|rfl|exact Nat.le_refl _|exact le_ rfl|exact bytesF_one _)|(simp_all;done)|(simp_all;omega)))|refine e_hit rfl ?_|refine e_miss rfl ?_|with_reducible refine ⟨by kernel_rfl, ?_⟩|refine x_endw rfl ?_|((with_reducible refine c_grd ?_);(fail_if_success (refine c_lit true rfl rfl rfl ?_));(fail_if_success (refine c_lit false rfl rfl rfl ?_));refine c_split rfl rfl (fun _ => ?_) (fun _ => ?_)))
          all_goals exact rj_lit 1 false _ _ (by omega)
        | false =>
          rw [p3] at w3
          rw [if_neg Bool.false_ne_true]
          by_cases h : e = 0
          · rw [if_pos h]
            have hn := hn h
            subst h
            refine r_fun Tryd.func28 rfl Tryd.ntmps28 Tryd.results28 rfl (rjD_free _) fun X hL hX => ?_
            repeat' (first |refine r_call (f := 29) rfl rfl Tryd.call29 rfl c1 ?_|refine r_call (f := 47) rfl rfl Tryd.call47 rfl w1 ?_|refine r_call (f := 47) rfl rfl Tryd.call47 rfl w2 ?_|refine r_call (f := 47) rfl rfl Tryd.call47 rfl w3 ?_|refine r_call (f := 48) rfl rfl Tryd.call48 rfl c4 ?_|with_reducible (first |refine t_seq ?_|refine t_region ?_|refine c_nil ?_|refine n_then ?_|refine t_ret ?_|refine t_skip ?_|refine t_exit ?_|refine t_block ?_|refine n_block ?_|refine e_then ?_|refine x_then ?_|refine x_block ?_|refine t_draw ?_)|refine r_val rfl rfl True.intro ?_|refine r_gskip rfl rfl rfl ?_|refine r_gskip2 rfl rfl rfl ?_|refine r_gval rfl rfl rfl rfl True.intro ?_|refine t_true rfl ?_|refine t_false rfl ?_|((first |refine t_cond_d rfl ?_ ?_|refine t_cond_i rfl ?_ ?_|refine t_cond_j rfl ?_ ?_|refine t_cond_s rfl ?_ ?_|refine t_cond_n rfl ?_ ?_|refine t_cond rfl ?_ ?_|refine c_split_d rfl rfl ?_ ?_|refine c_split_i rfl rfl ?_ ?_|refine c_split_j rfl rfl ?_ ?_|refine c_split_s rfl rfl ?_ ?_|refine c_split_n rfl rfl ?_ ?_)<;>intro<;>try (first |(rename_i hz;first |exact tf_ hz|exact ft_ hz)|(exfalso;omega)))|((first |refine r_val rfl rfl ?_ ?_|refine r_gval rfl rfl rfl rfl ?_ ?_|refine r_obj rfl rfl ?_ ?_|refine r_sto rfl ?_ ?_|refine r_gobj rfl rfl rfl rfl ?_ ?_);focus (first |omega|exact le_ rfl|((repeat first |rw [wrap_u8]|rw [IntKind.wrap_i64]|rw [IntKind.wrap_i32]|rw [wrap_u32']|rw [wrap_u64']);(repeat' refine And.intro ?_ ?_)<;>omega)|((repeat' refine And.intro ?_ ?_)<;>first |omega|rfl|exact Nat.le_refl _|exact le_ rfl|exact bytesF_one _)|(simp_all;done)|(simp_all;omega)))|refine e_hit rfl ?_|refine e_miss rfl ?_|with_reducible refine ⟨by kernel_rfl, ?_⟩|refine x_endw rfl ?_|((with_reducible refine c_grd ?_);(fail_if_success (refine c_lit true rfl rfl rfl ?_));(fail_if_success (refine c_lit false rfl rfl rfl ?_));refine c_split rfl rfl (fun _ => ?_) (fun _ => ?_)))
            all_goals exact .tu3 (num_weak (ng, dg, ex)) (.of_eq (congrArg (D.i .i64) (by omega))) (.refl _)
          · rw [if_neg h]
            refine r_fun Tryd.func28 rfl Tryd.ntmps28 Tryd.results28 rfl (rjD_free _) fun X hL hX => ?_
            repeat' (first |refine r_call (f := 29) rfl rfl Tryd.call29 rfl c1 ?_|refine r_call (f := 47) rfl rfl Tryd.call47 rfl w1 ?_|refine r_call (f := 47) rfl rfl Tryd.call47 rfl w2 ?_|refine r_call (f := 47) rfl rfl Tryd.call47 rfl w3 ?_|refine r_call (f := 48) rfl rfl Tryd.call48 rfl c4 ?_|with_reducible (first |refine t_seq ?_|refine t_region ?_|refine c_nil ?_|refine n_then ?_|refine t_ret ?_|refine t_skip ?_|refine t_exit ?_|refine t_block ?_|refine n_block ?_|refine e_then ?_|refine x_then ?_|refine x_block ?_|refine t_draw ?_)|refine r_val rfl rfl True.intro ?_|refine r_gskip rfl rfl rfl ?_|refine r_gskip2 rfl rfl rfl ?_|refine r_gval rfl rfl rfl rfl True.intro ?_|refine t_true rfl ?_|refine t_false rfl ?_|((first |refine t_cond_d rfl ?_ ?_|refine t_cond_i rfl ?_ ?_|refine t_cond_j rfl ?_ ?_|refine t_cond_s rfl ?_ ?_|refine t_cond_n rfl ?_ ?_|refine t_cond rfl ?_ ?_|refine c_split_d rfl rfl ?_ ?_|refine c_split_i rfl rfl ?_ ?_|refine c_split_j rfl rfl ?_ ?_|refine c_split_s rfl rfl ?_ ?_|refine c_split_n rfl rfl ?_ ?_)<;>intro<;>try (first |(rename_i hz;first |exact tf_ hz|exact ft_ hz)|(exfalso;omega)))|((first |refine r_val rfl rfl ?_ ?_|refine r_gval rfl rfl rfl rfl ?_ ?_|refine r_obj rfl rfl ?_ ?_|refine r_sto rfl ?_ ?_|refine r_gobj rfl rfl rfl rfl ?_ ?_);focus (first |omega|exact le_ rfl|((repeat first |rw [wrap_u8]|rw [IntKind.wrap_i64]|rw [IntKind.wrap_i32]|rw [wrap_u32']|rw [wrap_u64']);(repeat' refine And.intro ?_ ?_)<;>omega)|((repeat' refine And.intro ?_ ?_)<;>first |omega|rfl|exact Nat.le_refl _|exact le_ rfl|exact bytesF_one _)|(simp_all;done)|(simp_all;omega)))|refine e_hit rfl ?_|refine e_miss rfl ?_|with_reducible refine ⟨by kernel_rfl, ?_⟩|refine x_endw rfl ?_|((with_reducible refine c_grd ?_);(fail_if_success (refine c_lit true rfl rfl rfl ?_));(fail_if_success (refine c_lit false rfl rfl rfl ?_));refine c_split rfl rfl (fun _ => ?_) (fun _ => ?_)))
            all_goals exact rj_err _ _
  · rw [jval_none hji hj]
    refine r_fun Tryd.func28 rfl Tryd.ntmps28 Tryd.results28 rfl (rjD_free _) fun X hL hX => ?_
    repeat' (first |refine r_call (f := 29) rfl rfl Tryd.call29 rfl c1 ?_|with_reducible (first |refine t_seq ?_|refine t_region ?_|refine c_nil ?_|refine n_then ?_|refine t_ret ?_|refine t_skip ?_|refine t_exit ?_|refine t_block ?_|refine n_block ?_|refine e_then ?_|refine x_then ?_|refine x_block ?_|refine t_draw ?_)|refine r_val rfl rfl True.intro ?_|refine r_gskip rfl rfl rfl ?_|refine r_gskip2 rfl rfl rfl ?_|refine r_gval rfl rfl rfl rfl True.intro ?_|refine t_true rfl ?_|refine t_false rfl ?_|((first |refine t_cond_d rfl ?_ ?_|refine t_cond_i rfl ?_ ?_|refine t_cond_j rfl ?_ ?_|refine t_cond_s rfl ?_ ?_|refine t_cond_n rfl ?_ ?_|refine t_cond rfl ?_ ?_|refine c_split_d rfl rfl ?_ ?_|refine c_split_i rfl rfl ?_ ?_|refine c_split_j rfl rfl ?_ ?_|refine c_split_s rfl rfl ?_ ?_|refine c_split_n rfl rfl ?_ ?_)<;>intro<;>try (first |(rename_i hz;first |exact tf_ hz|exact ft_ hz)|(exfalso;omega)))|((first |refine r_val rfl rfl ?_ ?_|refine r_gval rfl rfl rfl rfl ?_ ?_|refine r_obj rfl rfl ?_ ?_|refine r_sto rfl ?_ ?_|refine r_gobj rfl rfl rfl rfl ?_ ?_);focus (first |omega|exact le_ rfl|((repeat first |rw [wrap_u8]|rw [IntKind.wrap_i64]|rw [IntKind.wrap_i32]|rw [wrap_u32']|rw [wrap_u64']);(repeat' refine And.intro ?_ ?_)<;>omega)|((repeat' refine And.intro ?_ ?_)<;>first |omega|rfl|exact Nat.le_refl _|exact le_ rfl|exact bytesF_one _)|(simp_all;done)|(simp_all;omega)))|refine e_hit rfl ?_|refine e_miss rfl ?_|with_reducible refine ⟨by kernel_rfl, ?_⟩|refine x_endw rfl ?_|((with_reducible refine c_grd ?_);(fail_if_success (refine c_lit true rfl rfl rfl ?_));(fail_if_success (refine c_lit false rfl rfl rfl ?_));refine c_split rfl rfl (fun _ => ?_) (fun _ => ?_)))
    all_goals exact rj_err _ _

set_option maxRecDepth 100000 in
set_option maxHeartbeats 8000000 in
theorem rvalue_zero (s : List UInt8) (hs : s.length ≤ 5000) (i : Nat) (hi : i ≤ s.length) :
    Ctr Tryd.prog 28 [.s s, .i .i64 i, .i .i64 0] (rjD (jval s 0 i)) := by
  have c1 := rskip_ctr s i (by omega) hi
  have hle := skN_le hi
  generalize hji : skN s i = j at *
  by_cases hj : j < s.length
  · rw [jval_deep hji hj]
    refine r_fun Tryd.func28 rfl Tryd.ntmps28 Tryd.results28 rfl (rjD_free _) fun X hL hX => ?_
    repeat' (first |refine r_call (f := 29) rfl rfl Tryd.call29 rfl c1 ?_|with_reducible (first |refine t_seq ?_|refine t_region ?_|refine c_nil ?_|refine n_then ?_|refine t_ret ?_|refine t_skip ?_|refine t_exit ?_|refine t_block ?_|refine n_block ?_|refine e_then ?_|refine x_then ?_|refine x_block ?_|refine t_draw ?_)|refine r_val rfl rfl True.intro ?_|refine r_gskip rfl rfl rfl ?_|refine r_gskip2 rfl rfl rfl ?_|refine r_gval rfl rfl rfl rfl True.intro ?_|refine t_true rfl ?_|refine t_false rfl ?_|((first |refine t_cond_d rfl ?_ ?_|refine t_cond_i rfl ?_ ?_|refine t_cond_j rfl ?_ ?_|refine t_cond_s rfl ?_ ?_|refine t_cond_n rfl ?_ ?_|refine t_cond rfl ?_ ?_|refine c_split_d rfl rfl ?_ ?_|refine c_split_i rfl rfl ?_ ?_|refine c_split_j rfl rfl ?_ ?_|refine c_split_s rfl rfl ?_ ?_|refine c_split_n rfl rfl ?_ ?_)<;>intro<;>try (first |(rename_i hz;first |exact tf_ hz|exact ft_ hz)|(exfalso;omega)))|((first |refine r_val rfl rfl ?_ ?_|refine r_gval rfl rfl rfl rfl ?_ ?_|refine r_obj rfl rfl ?_ ?_|refine r_sto rfl ?_ ?_|refine r_gobj rfl rfl rfl rfl ?_ ?_);focus (first |omega|exact le_ rfl|((repeat first |rw [wrap_u8]|rw [IntKind.wrap_i64]|rw [IntKind.wrap_i32]|rw [wrap_u32']|rw [wrap_u64']);(repeat' refine And.intro ?_ ?_)<;>omega)|((repeat' refine And.intro ?_ ?_)<;>first |omega|rfl|exact Nat.le_refl _|exact le_ rfl|exact bytesF_one _)|(simp_all;done)|(simp_all;omega)))|refine e_hit rfl ?_|refine e_miss rfl ?_|with_reducible refine ⟨by kernel_rfl, ?_⟩|refine x_endw rfl ?_|((with_reducible refine c_grd ?_);(fail_if_success (refine c_lit true rfl rfl rfl ?_));(fail_if_success (refine c_lit false rfl rfl rfl ?_));refine c_split rfl rfl (fun _ => ?_) (fun _ => ?_)))
    all_goals exact rj_err _ _
  · rw [jval_none hji hj]
    refine r_fun Tryd.func28 rfl Tryd.ntmps28 Tryd.results28 rfl (rjD_free _) fun X hL hX => ?_
    repeat' (first |refine r_call (f := 29) rfl rfl Tryd.call29 rfl c1 ?_|with_reducible (first |refine t_seq ?_|refine t_region ?_|refine c_nil ?_|refine n_then ?_|refine t_ret ?_|refine t_skip ?_|refine t_exit ?_|refine t_block ?_|refine n_block ?_|refine e_then ?_|refine x_then ?_|refine x_block ?_|refine t_draw ?_)|refine r_val rfl rfl True.intro ?_|refine r_gskip rfl rfl rfl ?_|refine r_gskip2 rfl rfl rfl ?_|refine r_gval rfl rfl rfl rfl True.intro ?_|refine t_true rfl ?_|refine t_false rfl ?_|((first |refine t_cond_d rfl ?_ ?_|refine t_cond_i rfl ?_ ?_|refine t_cond_j rfl ?_ ?_|refine t_cond_s rfl ?_ ?_|refine t_cond_n rfl ?_ ?_|refine t_cond rfl ?_ ?_|refine c_split_d rfl rfl ?_ ?_|refine c_split_i rfl rfl ?_ ?_|refine c_split_j rfl rfl ?_ ?_|refine c_split_s rfl rfl ?_ ?_|refine c_split_n rfl rfl ?_ ?_)<;>intro<;>try (first |(rename_i hz;first |exact tf_ hz|exact ft_ hz)|(exfalso;omega)))|((first |refine r_val rfl rfl ?_ ?_|refine r_gval rfl rfl rfl rfl ?_ ?_|refine r_obj rfl rfl ?_ ?_|refine r_sto rfl ?_ ?_|refine r_gobj rfl rfl rfl rfl ?_ ?_);focus (first |omega|exact le_ rfl|((repeat first |rw [wrap_u8]|rw [IntKind.wrap_i64]|rw [IntKind.wrap_i32]|rw [wrap_u32']|rw [wrap_u64']);(repeat' refine And.intro ?_ ?_)<;>omega)|((repeat' refine And.intro ?_ ?_)<;>first |omega|rfl|exact Nat.le_refl _|exact le_ rfl|exact bytesF_one _)|(simp_all;done)|(simp_all;omega)))|refine e_hit rfl ?_|refine e_miss rfl ?_|with_reducible refine ⟨by kernel_rfl, ?_⟩|refine x_endw rfl ?_|((with_reducible refine c_grd ?_);(fail_if_success (refine c_lit true rfl rfl rfl ?_));(fail_if_success (refine c_lit false rfl rfl rfl ?_));refine c_split rfl rfl (fun _ => ?_) (fun _ => ?_)))
    all_goals exact rj_err _ _

end Go.Proofs.YtbegohehjkjnmaaDoor.Flow
