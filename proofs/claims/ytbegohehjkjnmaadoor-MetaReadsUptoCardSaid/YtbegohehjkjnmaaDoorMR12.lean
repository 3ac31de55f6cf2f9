/- The texts RU9, RD0, RD1, Shelf, RLibs, RD2, RD3, one behind the other. -/
import Derived.Test.YtbegohehjkjnmaaDoorMR9
import Derived.Test.YtbegohehjkjnmaaDoorMR11
import Derived.Lib.TrimByte
import Derived.Shelf.Strings.Trim
import Derived.Shelf.Small.Strs
import Derived.Shelf.Strings.Prefix
import Derived.Test.YtbegohehjkjnmaaDoorProg
import Derived.Sort.Grow
namespace Go.Proofs.YtbegohehjkjnmaaDoor.Flow
open Go

def unqG (s : List UInt8) : Nat → Int → List UInt8 → List UInt8 × Int × Int
  | 0, _, _ => ([], 0, 2)
  | n + 1, i, o =>
    if i < s.length then
      (if at' s i = 34 then (if validL o = true then (o, i + 1, 0) else ([], 0, 3))
      else if at' s i = 92 then (if (escP s (i + 1) o).2.2 = 0 then unqG s n (escP s (i + 1) o).1 (escP s (i + 1) o).2.1 else ([], 0, (escP s (i + 1) o).2.2))
      else if at' s i < 32 then ([], 0, 3)
      else unqG s n (i + 1) (o ++ [by8 (at' s i)]))
    else ([], 0, 2)

def unqF (s : List UInt8) (i : Int) : List UInt8 × Int × Int :=
  if i < 0 ∨ s.length < i then ([], 0, 8)
  else if (mustF s i 0 34).2 = 0 then unqG s (s.length + 1 - (mustF s i 0 34).1.toNat) (mustF s i 0 34).1 [] else ([], 0, (mustF s i 0 34).2)

section
variable {s : List UInt8} {n : Nat} {i : Int} {o : List UInt8}
theorem unqG_end (h : ¬ i < s.length) : unqG s (n + 1) i o = ([], 0, 2) := by rw [unqG, if_neg h]
theorem unqG_quote (h : i < s.length) (h2 : at' s i = 34) (h3 : validL o = true) : unqG s (n + 1) i o = (o, i + 1, 0) := by rw [unqG, if_pos h, if_pos h2, if_pos h3]
theorem unqG_bad (h : i < s.length) (h2 : at' s i = 34) (h3 : validL o = false) : unqG s (n + 1) i o = ([], 0, 3) := by rw [unqG, if_pos h, if_pos h2, if_neg (by rw [h3]; decide)]
theorem unqG_esc (h : i < s.length) (h2 : at' s i = 92) : unqG s (n + 1) i o = if (escP s (i + 1) o).2.2 = 0 then unqG s n (escP s (i + 1) o).1 (escP s (i + 1) o).2.1 else ([], 0, (escP s (i + 1) o).2.2) := by
  rw [unqG, if_pos h, if_neg (by omega), if_pos h2]
theorem unqG_low (h : i < s.length) (h2 : ¬ at' s i = 34) (h3 : ¬ at' s i = 92) (h4 : at' s i < 32) : unqG s (n + 1) i o = ([], 0, 3) := by rw [unqG, if_pos h, if_neg h2, if_neg h3, if_pos h4]
theorem unqG_more (h : i < s.length) (h2 : ¬ at' s i = 34) (h3 : ¬ at' s i = 92) (h4 : ¬ at' s i < 32) : unqG s (n + 1) i o = unqG s n (i + 1) (o ++ [by8 (at' s i)]) := by rw [unqG, if_pos h, if_neg h2, if_neg h3, if_neg h4]
end

theorem lowP_range (s : List UInt8) (j : Int) (h0 : 0 ≤ j) (h1 : j ≤ s.length) : j ≤ (lowP s j).2.1 ∧ (lowP s j).2.1 ≤ s.length := by
  have q1 := mustF_range s j 0 92 h0 h1
  have q2 := mustF_range s (mustF s j 0 92).1 (mustF s j 0 92).2 117 (by omega) (by omega)
  have q3 := fourF_range s (mustF s (mustF s j 0 92).1 (mustF s j 0 92).2 117).1 (mustF s (mustF s j 0 92).1 (mustF s j 0 92).2 117).2 (by omega) (by omega)
  unfold lowP
  dsimp only
  omega

theorem codeP_range (s : List UInt8) (i : Int) (o : List UInt8) (h0 : 0 ≤ i) (h1 : i ≤ s.length) : i ≤ (codeP s i o).1 ∧ (codeP s i o).1 ≤ s.length ∧ (codeP s i o).2.1.length ≤ o.length + 4 := by
  have hr := fourG_range s 4 0 i h0 h1 (by omega)
  have hl := lowP_range s (fourG s 4 0 i).2.1 (by omega) (by omega)
  unfold codeP
  have u1 := utfB_len (pairF (fourG s 4 0 i).1 (lowP s (fourG s 4 0 i).2.1).1)
  have u2 := utfB_len (fourG s 4 0 i).1
  dsimp only
  (repeat' split) <;> dsimp only <;> (try simp only [List.length_append]) <;> omega

theorem escP_range (s : List UInt8) (i : Int) (o : List UInt8) (h0 : 0 ≤ i) (h1 : i ≤ s.length) : i ≤ (escP s i o).1 ∧ (escP s i o).1 ≤ s.length ∧ (escP s i o).2.1.length ≤ o.length + 4 := by
  unfold escP
  split
  · have := codeP_range s (i + 1) o (by omega) (by omega)
    split
    · omega
    · simp only [List.length_append, List.length_cons, List.length_nil]
      omega
  · simp only [List.length_append, List.length_cons, List.length_nil]
    omega

theorem unqG_ge (s : List UInt8) : ∀ (n m : Nat) (i : Int) (o : List UInt8), 0 ≤ i → i ≤ s.length → (s.length : Int) + 1 ≤ i + n → (s.length : Int) + 1 ≤ i + m → unqG s n i o = unqG s m i o
  | 0, _, i, o, h0, h1, h2, _ => by omega
  | n + 1, 0, i, o, h0, h1, _, h2 => by omega
  | n + 1, m + 1, i, o, h0, h1, h2, h3 => by
    by_cases hi : i < s.length
    · by_cases c34 : at' s i = 34
      · cases hv : validL o with
        | true => rw [unqG_quote hi c34 hv, unqG_quote hi c34 hv]
        | false => rw [unqG_bad hi c34 hv, unqG_bad hi c34 hv]
      · by_cases c92 : at' s i = 92
        · rw [unqG_esc hi c92, unqG_esc hi c92]
          have er := escP_range s (i + 1) o (by omega) (by omega)
          split
          · exact unqG_ge s n m _ _ (by omega) er.2.1 (by omega) (by omega)
          · rfl
        · by_cases c32 : at' s i < 32
          · rw [unqG_low hi c34 c92 c32, unqG_low hi c34 c92 c32]
          · rw [unqG_more hi c34 c92 c32, unqG_more hi c34 c92 c32]
            exact unqG_ge s n m _ _ (by omega) (by omega) (by omega) (by omega)
    · rw [unqG_end hi, unqG_end hi]

set_option maxHeartbeats 1000000 in
theorem unq_ctr (s : List UInt8) (i : Int) (hs : s.length ≤ 1048576) : Ctr Tryd.prog 61 [.s s, .i .i64 i] (.tu [.s (unqF s i).1, .i .i64 (unqF s i).2.1, .i .i64 (unqF s i).2.2]) := by
  by_cases hb : i < 0 ∨ s.length < i
  · unfold unqF
    rw [if_pos hb]
    refine r_fun Tryd.func61 rfl Tryd.ntmps61 Tryd.results61 rfl rfl fun X hL hX => ?_
    repeat' (first |refine T.adoptV 20 2 200 5 1 _ (bytesF []) rfl rfl rfl ?_|with_reducible (first |refine t_seq ?_|refine t_region ?_|refine c_nil ?_|refine n_then ?_|refine t_ret ?_|refine t_skip ?_|refine t_exit ?_|refine t_block ?_|refine n_block ?_|refine e_then ?_|refine x_then ?_|refine x_block ?_|refine t_draw ?_)|refine r_val rfl rfl True.intro ?_|refine r_gskip rfl rfl rfl ?_|refine r_gskip2 rfl rfl rfl ?_|refine r_gval rfl rfl rfl rfl True.intro ?_|refine t_true rfl ?_|refine t_false rfl ?_|((first |refine t_cond_d rfl ?_ ?_|refine t_cond_i rfl ?_ ?_|refine t_cond_j rfl ?_ ?_|refine t_cond_s rfl ?_ ?_|refine t_cond_n rfl ?_ ?_|refine t_cond rfl ?_ ?_|refine c_split_d rfl rfl ?_ ?_|refine c_split_i rfl rfl ?_ ?_|refine c_split_j rfl rfl ?_ ?_|refine c_split_s rfl rfl ?_ ?_|refine c_split_n rfl rfl ?_ ?_)<;>intro<;>try (first |(rename_i hz;first |exact tf_ hz|exact ft_ hz)|(exfalso;omega)))|((first |refine r_val rfl rfl ?_ ?_|refine r_gval rfl rfl rfl rfl ?_ ?_|refine r_obj rfl rfl ?_ ?_|refine r_sto rfl ?_ ?_|refine r_gobj rfl rfl rfl rfl ?_ ?_);focus (first |omega|exact le_ rfl|((repeat first |rw [wrap_u8]|rw [IntKind.wrap_i64]|rw [IntKind.wrap_i32]|rw [wrap_u32']|rw [wrap_u64']);(repeat' refine And.intro ?_ ?_)<;>omega)|((repeat' refine And.intro ?_ ?_)<;>first |omega|rfl|exact Nat.le_refl _|exact le_ rfl|exact bytesF_one _)|(simp_all;done)|(simp_all;omega)))|refine e_hit rfl ?_|refine e_miss rfl ?_|with_reducible refine ⟨by kernel_rfl, ?_⟩|refine x_end rfl ?_|((with_reducible refine c_grd ?_);(fail_if_success (refine c_lit true rfl rfl rfl ?_));(fail_if_success (refine c_lit false rfl rfl rfl ?_));refine c_split rfl rfl (fun _ => ?_) (fun _ => ?_)))
    all_goals rfl
  · have h0 : 0 ≤ i := by omega
    have h1 : i ≤ s.length := by omega
    generalize hR : unqF s i = R
    unfold unqF at hR
    rw [if_neg hb] at hR
    have hm := must_ctr s i [] 0 34 (by omega) h0 h1
    have hmr := mustF_range s i 0 34 h0 h1
    generalize mustF s i 0 34 = m at hm hmr hR
    obtain ⟨j, e⟩ := m
    dsimp only at hm hmr hR
    refine r_fun Tryd.func61 rfl Tryd.ntmps61 Tryd.results61 rfl rfl fun X hL hX => ?_
    replace hR := fun _ : Unit => hR
    repeat' (first |refine T.adoptV 20 2 200 5 1 _ (bytesF []) rfl rfl rfl ?_|with_reducible (first |refine t_seq ?_|refine t_region ?_|refine c_nil ?_|refine n_then ?_|refine t_ret ?_|refine t_skip ?_|refine t_exit ?_|refine t_block ?_|refine n_block ?_|refine e_then ?_|refine x_then ?_|refine x_block ?_|refine t_draw ?_)|refine r_val rfl rfl True.intro ?_|refine r_gskip rfl rfl rfl ?_|refine r_gskip2 rfl rfl rfl ?_|refine r_gval rfl rfl rfl rfl True.intro ?_|refine t_true rfl ?_|refine t_false rfl ?_|((first |refine t_cond_d rfl ?_ ?_|refine t_cond_i rfl ?_ ?_|refine t_cond_j rfl ?_ ?_|refine t_cond_s rfl ?_ ?_|refine t_cond_n rfl ?_ ?_|refine t_cond rfl ?_ ?_|refine c_split_d rfl rfl ?_ ?_|refine c_split_i rfl rfl ?_ ?_|refine c_split_j rfl rfl ?_ ?_|refine c_split_s rfl rfl ?_ ?_|refine c_split_n rfl rfl ?_ ?_)<;>intro<;>try (first |(rename_i hz;first |exact tf_ hz|exact ft_ hz)|(exfalso;omega)))|((first |refine r_val rfl rfl ?_ ?_|refine r_gval rfl rfl rfl rfl ?_ ?_|refine r_obj rfl rfl ?_ ?_|refine r_sto rfl ?_ ?_|refine r_gobj rfl rfl rfl rfl ?_ ?_);focus (first |omega|exact le_ rfl|((repeat first |rw [wrap_u8]|rw [IntKind.wrap_i64]|rw [IntKind.wrap_i32]|rw [wrap_u32']|rw [wrap_u64']);(repeat' refine And.intro ?_ ?_)<;>omega)|((repeat' refine And.intro ?_ ?_)<;>first |omega|rfl|exact Nat.le_refl _|exact le_ rfl|exact bytesF_one _)|(simp_all;done)|(simp_all;omega)))|refine e_hit rfl ?_|refine e_miss rfl ?_|with_reducible refine ⟨by kernel_rfl, ?_⟩|refine x_end rfl ?_|refine r_lend2 (f := 76) 20 200 rfl rfl Tryd.call76 rfl rfl rfl rfl rfl rfl rfl rfl rfl hm ?_|((with_reducible refine c_grd ?_);(fail_if_success (refine c_lit true rfl rfl rfl ?_));(fail_if_success (refine c_lit false rfl rfl rfl ?_));refine c_split rfl rfl (fun _ => ?_) (fun _ => ?_)))
    refine T.loop hL (fun x : Int × List UInt8 × Int => [(0, .s s), (7, .pv 20 0)]) (fun x => rdl s x.1 x.2.1 x.2.2)
      (fun x => (x.2.2 = 0 ∧ 0 ≤ x.1 ∧ x.1 ≤ s.length ∧ (x.2.1.length : Int) ≤ 4 * x.1 ∧ (∀ _ : Unit, unqG s (s.length + 1 - x.1.toNat) x.1 x.2.1 = R)) ∨ (¬ x.2.2 = 0 ∧ ∀ _ : Unit, R = ([], 0, x.2.2)))
      (fun x => if x.2.2 = 0 then s.length + 1 - x.1.toNat else 0) (j, [], e) ?_
      ⟨⟨rfl, rfl, trivial⟩, ⟨rfl, rfl, trivial⟩, rfl, by rw [hX]; intro k hk; cases hk⟩ ?_
    · by_cases he : e = 0
      · refine .inl ⟨he, by dsimp only; omega, hmr.2.1, by simp; omega, fun _ => ?_⟩
        have := hR ()
        rw [if_pos he] at this
        exact this
      · refine .inr ⟨he, fun _ => ?_⟩
        have := hR ()
        rw [if_neg he] at this
        exact this.symm
    clear hm hmr hR
    rintro ⟨p, o, e'⟩ hI
    dsimp only at hI ⊢
    have done : ∀ (fr : Fr) (ow : Ow) (p' : Int) (o' : List UInt8) (f : Int), getD' 0 fr = .s s → getD' 7 fr = .pv 20 0 → leOw ow (rdl s p' o' f) → (¬ f = 0 ∧ (∀ _ : Unit, R = ([], 0, f)) ∧ e' = 0 ∧ 0 ≤ p ∧ p ≤ s.length ∨ f = 0 ∧ 0 ≤ p ∧ p < p' ∧ p' ≤ s.length ∧ (o'.length : Int) ≤ 4 * p' ∧ (∀ _ : Unit, unqG s (s.length + 1 - p'.toNat) p' o' = R) ∧ e' = 0) →
        ∃ y : Int × List UInt8 × Int, ((y.2.2 = 0 ∧ 0 ≤ y.1 ∧ y.1 ≤ s.length ∧ (y.2.1.length : Int) ≤ 4 * y.1 ∧ (∀ _ : Unit, unqG s (s.length + 1 - y.1.toNat) y.1 y.2.1 = R)) ∨ (¬ y.2.2 = 0 ∧ ∀ _ : Unit, R = ([], 0, y.2.2))) ∧
          (if y.2.2 = 0 then s.length + 1 - y.1.toNat else 0) < (if e' = 0 then s.length + 1 - p.toNat else 0) ∧ Le X fr ow [(0, .s s), (7, .pv 20 0)] (rdl s y.1 y.2.1 y.2.2) := by
      intro fr ow p' o' f q1 q2 q3 q4
      refine ⟨(p', o', f), ?_, ?_, ⟨q1, q2, trivial⟩, q3, rfl, by rw [hX]; intro k hk; cases hk⟩
      · rcases q4 with ⟨a, b, _⟩ | ⟨a, b, c, d, g, h, _⟩
        · exact .inr ⟨a, b⟩
        · exact .inl ⟨a, by dsimp only; omega, d, g, h⟩
      · dsimp only
        rcases q4 with ⟨a, b, c, d, g⟩ | ⟨a, b, c, d, g, h, k⟩
        · rw [if_neg a, if_pos c]
          omega
        · rw [if_pos a, if_pos k]
          omega
    rcases hI with ⟨he, i0, i1, i2, i3⟩ | ⟨he, i3⟩
    · subst he
      have hn := next_ctr s p o 0 (by omega) i0 i1
      have ho : o.length ≤ 4194304 := by omega
      by_cases hp : p < s.length
      · rw [nextF_ok rfl hp] at hn
        dsimp only at hn
        have hr := at_range s p
        have hnn : s.length + 1 - p.toNat = (s.length + 1 - (p + 1).toNat) + 1 := by omega
        rw [hnn] at i3
        by_cases c34 : at' s p = 34
        · have cv := valid_ctr o (by omega)
          cases hv : validL o with
          | true =>
            rw [hv] at cv
            have i3 := fun _ : Unit => (i3 ()).symm.trans (unqG_quote hp c34 hv)
            clear hv
            repeat' (first |with_reducible (first |refine t_seq ?_|refine t_region ?_|refine c_nil ?_|refine n_then ?_|refine t_ret ?_|refine t_skip ?_|refine t_exit ?_|refine t_block ?_|refine n_block ?_|refine e_then ?_|refine x_then ?_|refine x_block ?_|refine t_draw ?_)|refine r_val rfl rfl True.intro ?_|refine r_gskip rfl rfl rfl ?_|refine r_gskip2 rfl rfl rfl ?_|refine r_gval rfl rfl rfl rfl True.intro ?_|refine t_true rfl ?_|refine t_false rfl ?_|((first |refine t_cond_d rfl ?_ ?_|refine t_cond_i rfl ?_ ?_|refine t_cond_j rfl ?_ ?_|refine t_cond_s rfl ?_ ?_|refine t_cond_n rfl ?_ ?_|refine t_cond rfl ?_ ?_|refine c_split_d rfl rfl ?_ ?_|refine c_split_i rfl rfl ?_ ?_|refine c_split_j rfl rfl ?_ ?_|refine c_split_s rfl rfl ?_ ?_|refine c_split_n rfl rfl ?_ ?_)<;>intro<;>try (first |(rename_i hz;first |exact tf_ hz|exact ft_ hz)|(exfalso;omega)))|((first |refine r_val rfl rfl ?_ ?_|refine r_gval rfl rfl rfl rfl ?_ ?_|refine r_obj rfl rfl ?_ ?_|refine r_sto rfl ?_ ?_|refine r_gobj rfl rfl rfl rfl ?_ ?_);focus (first |omega|exact le_ rfl|((repeat first |rw [wrap_u8]|rw [IntKind.wrap_i64]|rw [IntKind.wrap_i32]|rw [wrap_u32']|rw [wrap_u64']);(repeat' refine And.intro ?_ ?_)<;>omega)|((repeat' refine And.intro ?_ ?_)<;>first |omega|rfl|exact Nat.le_refl _|exact le_ rfl|exact bytesF_one _)|(simp_all;done)|(simp_all;omega)))|refine e_hit rfl ?_|refine e_miss rfl ?_|with_reducible refine ⟨by kernel_rfl, ?_⟩|refine x_end rfl ?_|refine r_lend2 (f := 77) 20 200 rfl rfl Tryd.call77 rfl rfl rfl rfl rfl rfl rfl rfl rfl hn ?_|refine r_call (f := 50) rfl rfl Tryd.call50 rfl (by rw [bytesOf_bytesF];exact cv) ?_|((with_reducible refine c_grd ?_);(fail_if_success (refine c_lit true rfl rfl rfl ?_));(fail_if_success (refine c_lit false rfl rfl rfl ?_));refine c_split rfl rfl (fun _ => ?_) (fun _ => ?_)))
            rw [i3 (), bytesOf_bytesF]
          | false =>
            rw [hv] at cv
            have i3 := fun _ : Unit => (i3 ()).symm.trans (unqG_bad hp c34 hv)
            clear hv
            repeat' (first |with_reducible (first |refine t_seq ?_|refine t_region ?_|refine c_nil ?_|refine n_then ?_|refine t_ret ?_|refine t_skip ?_|refine t_exit ?_|refine t_block ?_|refine n_block ?_|refine e_then ?_|refine x_then ?_|refine x_block ?_|refine t_draw ?_)|refine r_val rfl rfl True.intro ?_|refine r_gskip rfl rfl rfl ?_|refine r_gskip2 rfl rfl rfl ?_|refine r_gval rfl rfl rfl rfl True.intro ?_|refine t_true rfl ?_|refine t_false rfl ?_|((first |refine t_cond_d rfl ?_ ?_|refine t_cond_i rfl ?_ ?_|refine t_cond_j rfl ?_ ?_|refine t_cond_s rfl ?_ ?_|refine t_cond_n rfl ?_ ?_|refine t_cond rfl ?_ ?_|refine c_split_d rfl rfl ?_ ?_|refine c_split_i rfl rfl ?_ ?_|refine c_split_j rfl rfl ?_ ?_|refine c_split_s rfl rfl ?_ ?_|refine c_split_n rfl rfl ?_ ?_)<;>intro<;>try (first |(rename_i hz;first |exact tf_ hz|exact ft_ hz)|(exfalso;omega)))|((first |refine r_val rfl rfl ?_ ?_|refine r_gval rfl rfl rfl rfl ?_ ?_|refine r_obj rfl rfl ?_ ?_|refine r_sto rfl ?_ ?_|refine r_gobj rfl rfl rfl rfl ?_ ?_);focus (first |omega|exact le_ rfl|((repeat first |rw [wrap_u8]|rw [IntKind.wrap_i64]|rw [IntKind.wrap_i32]|rw [wrap_u32']|rw [wrap_u64']);(repeat' refine And.intro ?_ ?_)<;>omega)|((repeat' refine And.intro ?_ ?_)<;>first |omega|rfl|exact Nat.le_refl _|exact le_ rfl|exact bytesF_one _)|(simp_all;done)|(simp_all;omega)))|refine e_hit rfl ?_|refine e_miss rfl ?_|with_reducible refine ⟨by kernel_rfl, ?_⟩|refine x_end rfl ?_|refine r_lend2 (f := 77) 20 200 rfl rfl Tryd.call77 rfl rfl rfl rfl rfl rfl rfl rfl rfl hn ?_|refine r_call (f := 50) rfl rfl Tryd.call50 rfl (by rw [bytesOf_bytesF];exact cv) ?_|((with_reducible refine c_grd ?_);(fail_if_success (refine c_lit true rfl rfl rfl ?_));(fail_if_success (refine c_lit false rfl rfl rfl ?_));refine c_split rfl rfl (fun _ => ?_) (fun _ => ?_)))
            rw [i3 ()]
        · by_cases c92 : at' s p = 92
          · have ce := esc_ctr s (p + 1) o (by omega) (by omega) (by omega) (by omega)
            have er := escP_range s (p + 1) o (by omega) (by omega)
            have i3 := fun _ : Unit => (i3 ()).symm.trans (unqG_esc hp c92)
            generalize escP s (p + 1) o = E at ce er i3
            obtain ⟨p', o', f⟩ := E
            dsimp only at ce er i3
            repeat' (first |with_reducible (first |refine t_seq ?_|refine t_region ?_|refine c_nil ?_|refine n_then ?_|refine t_ret ?_|refine t_skip ?_|refine t_exit ?_|refine t_block ?_|refine n_block ?_|refine e_then ?_|refine x_then ?_|refine x_block ?_|refine t_draw ?_)|refine r_val rfl rfl True.intro ?_|refine r_gskip rfl rfl rfl ?_|refine r_gskip2 rfl rfl rfl ?_|refine r_gval rfl rfl rfl rfl True.intro ?_|refine t_true rfl ?_|refine t_false rfl ?_|((first |refine t_cond_d rfl ?_ ?_|refine t_cond_i rfl ?_ ?_|refine t_cond_j rfl ?_ ?_|refine t_cond_s rfl ?_ ?_|refine t_cond_n rfl ?_ ?_|refine t_cond rfl ?_ ?_|refine c_split_d rfl rfl ?_ ?_|refine c_split_i rfl rfl ?_ ?_|refine c_split_j rfl rfl ?_ ?_|refine c_split_s rfl rfl ?_ ?_|refine c_split_n rfl rfl ?_ ?_)<;>intro<;>try (first |(rename_i hz;first |exact tf_ hz|exact ft_ hz)|(exfalso;omega)))|((first |refine r_val rfl rfl ?_ ?_|refine r_gval rfl rfl rfl rfl ?_ ?_|refine r_obj rfl rfl ?_ ?_|refine r_sto rfl ?_ ?_|refine r_gobj rfl rfl rfl rfl ?_ ?_);focus (first |omega|exact le_ rfl|((repeat first |rw [wrap_u8]|rw [IntKind.wrap_i64]|rw [IntKind.wrap_i32]|rw [wrap_u32']|rw [wrap_u64']);(repeat' refine And.intro ?_ ?_)<;>omega)|((repeat' refine And.intro ?_ ?_)<;>first |omega|rfl|exact Nat.le_refl _|exact le_ rfl|exact bytesF_one _)|(simp_all;done)|(simp_all;omega)))|refine e_hit rfl ?_|refine e_miss rfl ?_|with_reducible refine ⟨by kernel_rfl, ?_⟩|refine x_end rfl ?_|refine r_lend2 (f := 77) 20 200 rfl rfl Tryd.call77 rfl rfl rfl rfl rfl rfl rfl rfl rfl hn ?_|refine r_lend2 (f := 78) 20 200 rfl rfl Tryd.call78 rfl rfl rfl rfl rfl rfl rfl rfl rfl ce ?_|((with_reducible refine c_grd ?_);(fail_if_success (refine c_lit true rfl rfl rfl ?_));(fail_if_success (refine c_lit false rfl rfl rfl ?_));refine c_split rfl rfl (fun _ => ?_) (fun _ => ?_)))
            by_cases hf0 : f = 0
            · refine done _ _ p' o' f rfl rfl ⟨rfl, rfl, trivial⟩ (.inr ⟨hf0, i0, by omega, er.2.1, by omega, fun _ => ?_, rfl⟩)
              rw [i3 (), if_pos hf0]
              exact unqG_ge s _ _ p' o' (by omega) er.2.1 (by omega) (by omega)
            · refine done _ _ p' o' f rfl rfl ⟨rfl, rfl, trivial⟩ (.inl ⟨hf0, fun _ => ?_, rfl, i0, i1⟩)
              rw [i3 (), if_neg hf0]
          · have hf := fail_ctr s (p + 1) o 0 3
            by_cases c32 : at' s p < 32
            · have i3 := fun _ : Unit => (i3 ()).symm.trans (unqG_low hp c34 c92 c32)
              repeat' (first |with_reducible (first |refine t_seq ?_|refine t_region ?_|refine c_nil ?_|refine n_then ?_|refine t_ret ?_|refine t_skip ?_|refine t_exit ?_|refine t_block ?_|refine n_block ?_|refine e_then ?_|refine x_then ?_|refine x_block ?_|refine t_draw ?_)|refine r_val rfl rfl True.intro ?_|refine r_gskip rfl rfl rfl ?_|refine r_gskip2 rfl rfl rfl ?_|refine r_gval rfl rfl rfl rfl True.intro ?_|refine t_true rfl ?_|refine t_false rfl ?_|((first |refine t_cond_d rfl ?_ ?_|refine t_cond_i rfl ?_ ?_|refine t_cond_j rfl ?_ ?_|refine t_cond_s rfl ?_ ?_|refine t_cond_n rfl ?_ ?_|refine t_cond rfl ?_ ?_|refine c_split_d rfl rfl ?_ ?_|refine c_split_i rfl rfl ?_ ?_|refine c_split_j rfl rfl ?_ ?_|refine c_split_s rfl rfl ?_ ?_|refine c_split_n rfl rfl ?_ ?_)<;>intro<;>try (first |(rename_i hz;first |exact tf_ hz|exact ft_ hz)|(exfalso;omega)))|((first |refine r_val rfl rfl ?_ ?_|refine r_gval rfl rfl rfl rfl ?_ ?_|refine r_obj rfl rfl ?_ ?_|refine r_sto rfl ?_ ?_|refine r_gobj rfl rfl rfl rfl ?_ ?_);focus (first |omega|exact le_ rfl|((repeat first |rw [wrap_u8]|rw [IntKind.wrap_i64]|rw [IntKind.wrap_i32]|rw [wrap_u32']|rw [wrap_u64']);(repeat' refine And.intro ?_ ?_)<;>omega)|((repeat' refine And.intro ?_ ?_)<;>first |omega|rfl|exact Nat.le_refl _|exact le_ rfl|exact bytesF_one _)|(simp_all;done)|(simp_all;omega)))|refine e_hit rfl ?_|refine e_miss rfl ?_|with_reducible refine ⟨by kernel_rfl, ?_⟩|refine x_end rfl ?_|refine r_lend2 (f := 77) 20 200 rfl rfl Tryd.call77 rfl rfl rfl rfl rfl rfl rfl rfl rfl hn ?_|refine r_lend2 (f := 79) 20 200 rfl rfl Tryd.call79 rfl rfl rfl rfl rfl rfl rfl rfl rfl hf ?_|((with_reducible refine c_grd ?_);(fail_if_success (refine c_lit true rfl rfl rfl ?_));(fail_if_success (refine c_lit false rfl rfl rfl ?_));refine c_split rfl rfl (fun _ => ?_) (fun _ => ?_)))
              exact done _ _ (p + 1) o 3 rfl rfl ⟨rfl, rfl, trivial⟩ (.inl ⟨by omega, i3, rfl, i0, i1⟩)
            · have i3 := fun _ : Unit => (i3 ()).symm.trans (unqG_more hp c34 c92 c32)
              repeat' (first |with_reducible (first |refine t_seq ?_|refine t_region ?_|refine c_nil ?_|refine n_then ?_|refine t_ret ?_|refine t_skip ?_|refine t_exit ?_|refine t_block ?_|refine n_block ?_|refine e_then ?_|refine x_then ?_|refine x_block ?_|refine t_draw ?_)|refine r_val rfl rfl True.intro ?_|refine r_gskip rfl rfl rfl ?_|refine r_gskip2 rfl rfl rfl ?_|refine r_gval rfl rfl rfl rfl True.intro ?_|refine t_true rfl ?_|refine t_false rfl ?_|((first |refine t_cond_d rfl ?_ ?_|refine t_cond_i rfl ?_ ?_|refine t_cond_j rfl ?_ ?_|refine t_cond_s rfl ?_ ?_|refine t_cond_n rfl ?_ ?_|refine t_cond rfl ?_ ?_|refine c_split_d rfl rfl ?_ ?_|refine c_split_i rfl rfl ?_ ?_|refine c_split_j rfl rfl ?_ ?_|refine c_split_s rfl rfl ?_ ?_|refine c_split_n rfl rfl ?_ ?_)<;>intro<;>try (first |(rename_i hz;first |exact tf_ hz|exact ft_ hz)|(exfalso;omega)))|((first |refine r_val rfl rfl ?_ ?_|refine r_gval rfl rfl rfl rfl ?_ ?_|refine r_obj rfl rfl ?_ ?_|refine r_sto rfl ?_ ?_|refine r_gobj rfl rfl rfl rfl ?_ ?_);focus (first |omega|exact le_ rfl|((repeat first |rw [wrap_u8]|rw [IntKind.wrap_i64]|rw [IntKind.wrap_i32]|rw [wrap_u32']|rw [wrap_u64']);(repeat' refine And.intro ?_ ?_)<;>omega)|((repeat' refine And.intro ?_ ?_)<;>first |omega|rfl|exact Nat.le_refl _|exact le_ rfl|exact bytesF_one _)|(simp_all;done)|(simp_all;omega)))|refine e_hit rfl ?_|refine e_miss rfl ?_|with_reducible refine ⟨by kernel_rfl, ?_⟩|refine x_end rfl ?_|refine r_lend2 (f := 77) 20 200 rfl rfl Tryd.call77 rfl rfl rfl rfl rfl rfl rfl rfl rfl hn ?_|((with_reducible refine c_grd ?_);(fail_if_success (refine c_lit true rfl rfl rfl ?_));(fail_if_success (refine c_lit false rfl rfl rfl ?_));refine c_split rfl rfl (fun _ => ?_) (fun _ => ?_)))
              exact done _ _ (p + 1) (o ++ [by8 (at' s p)]) 0 rfl rfl (rdl_byte rfl hr.1 hr.2 rfl rfl rfl rfl) (.inr ⟨rfl, i0, by omega, by omega, by simp; omega, fun _ => (i3 ()).symm, rfl⟩)
      · rw [nextF_short rfl hp] at hn
        dsimp only at hn
        rw [show s.length + 1 - p.toNat = 0 + 1 by omega] at i3
        have i3 := fun _ : Unit => (i3 ()).symm.trans (unqG_end hp)
        repeat' (first |with_reducible (first |refine t_seq ?_|refine t_region ?_|refine c_nil ?_|refine n_then ?_|refine t_ret ?_|refine t_skip ?_|refine t_exit ?_|refine t_block ?_|refine n_block ?_|refine e_then ?_|refine x_then ?_|refine x_block ?_|refine t_draw ?_)|refine r_val rfl rfl True.intro ?_|refine r_gskip rfl rfl rfl ?_|refine r_gskip2 rfl rfl rfl ?_|refine r_gval rfl rfl rfl rfl True.intro ?_|refine t_true rfl ?_|refine t_false rfl ?_|((first |refine t_cond_d rfl ?_ ?_|refine t_cond_i rfl ?_ ?_|refine t_cond_j rfl ?_ ?_|refine t_cond_s rfl ?_ ?_|refine t_cond_n rfl ?_ ?_|refine t_cond rfl ?_ ?_|refine c_split_d rfl rfl ?_ ?_|refine c_split_i rfl rfl ?_ ?_|refine c_split_j rfl rfl ?_ ?_|refine c_split_s rfl rfl ?_ ?_|refine c_split_n rfl rfl ?_ ?_)<;>intro<;>try (first |(rename_i hz;first |exact tf_ hz|exact ft_ hz)|(exfalso;omega)))|((first |refine r_val rfl rfl ?_ ?_|refine r_gval rfl rfl rfl rfl ?_ ?_|refine r_obj rfl rfl ?_ ?_|refine r_sto rfl ?_ ?_|refine r_gobj rfl rfl rfl rfl ?_ ?_);focus (first |omega|exact le_ rfl|((repeat first |rw [wrap_u8]|rw [IntKind.wrap_i64]|rw [IntKind.wrap_i32]|rw [wrap_u32']|rw [wrap_u64']);(repeat' refine And.intro ?_ ?_)<;>omega)|((repeat' refine And.intro ?_ ?_)<;>first |omega|rfl|exact Nat.le_refl _|exact le_ rfl|exact bytesF_one _)|(simp_all;done)|(simp_all;omega)))|refine e_hit rfl ?_|refine e_miss rfl ?_|with_reducible refine ⟨by kernel_rfl, ?_⟩|refine x_end rfl ?_|refine r_lend2 (f := 77) 20 200 rfl rfl Tryd.call77 rfl rfl rfl rfl rfl rfl rfl rfl rfl hn ?_|((with_reducible refine c_grd ?_);(fail_if_success (refine c_lit true rfl rfl rfl ?_));(fail_if_success (refine c_lit false rfl rfl rfl ?_));refine c_split rfl rfl (fun _ => ?_) (fun _ => ?_)))
        exact done _ _ p o 2 rfl rfl ⟨rfl, rfl, trivial⟩ (.inl ⟨by omega, i3, rfl, i0, i1⟩)
    · clear done
      repeat' (first |with_reducible (first |refine t_seq ?_|refine t_region ?_|refine c_nil ?_|refine n_then ?_|refine t_ret ?_|refine t_skip ?_|refine t_exit ?_|refine t_block ?_|refine n_block ?_|refine e_then ?_|refine x_then ?_|refine x_block ?_|refine t_draw ?_)|refine r_val rfl rfl True.intro ?_|refine r_gskip rfl rfl rfl ?_|refine r_gskip2 rfl rfl rfl ?_|refine r_gval rfl rfl rfl rfl True.intro ?_|refine t_true rfl ?_|refine t_false rfl ?_|((first |refine t_cond_d rfl ?_ ?_|refine t_cond_i rfl ?_ ?_|refine t_cond_j rfl ?_ ?_|refine t_cond_s rfl ?_ ?_|refine t_cond_n rfl ?_ ?_|refine t_cond rfl ?_ ?_|refine c_split_d rfl rfl ?_ ?_|refine c_split_i rfl rfl ?_ ?_|refine c_split_j rfl rfl ?_ ?_|refine c_split_s rfl rfl ?_ ?_|refine c_split_n rfl rfl ?_ ?_)<;>intro<;>try (first |(rename_i hz;first |exact tf_ hz|exact ft_ hz)|(exfalso;omega)))|((first |refine r_val rfl rfl ?_ ?_|refine r_gval rfl rfl rfl rfl ?_ ?_|refine r_obj rfl rfl ?_ ?_|refine r_sto rfl ?_ ?_|refine r_gobj rfl rfl rfl rfl ?_ ?_);focus (first |omega|exact le_ rfl|((repeat first |rw [wrap_u8]|rw [IntKind.wrap_i64]|rw [IntKind.wrap_i32]|rw [wrap_u32']|rw [wrap_u64']);(repeat' refine And.intro ?_ ?_)<;>omega)|((repeat' refine And.intro ?_ ?_)<;>first |omega|rfl|exact Nat.le_refl _|exact le_ rfl|exact bytesF_one _)|(simp_all;done)|(simp_all;omega)))|refine e_hit rfl ?_|refine e_miss rfl ?_|with_reducible refine ⟨by kernel_rfl, ?_⟩|refine x_end rfl ?_|((with_reducible refine c_grd ?_);(fail_if_success (refine c_lit true rfl rfl rfl ?_));(fail_if_success (refine c_lit false rfl rfl rfl ?_));refine c_split rfl rfl (fun _ => ?_) (fun _ => ?_)))
      rw [i3 ()]

abbrev dcD (neg : Bool) (s : List UInt8) (e : Int) : D := .ag [.b neg, .s s, .i .i64 e]

def digC (c : Int) : Prop := 48 ≤ c ∧ c ≤ 57
def digs (s : List UInt8) : Prop := ∀ i : Nat, i < s.length → 48 ≤ at' s i ∧ at' s i ≤ 57

def RightP (neg : Bool) (s : List UInt8) (e : Int) : Prop :=
  if s.length = 0 then neg = false ∧ e = 0
  else digs s ∧ s.length ≤ 100 ∧ ¬ at' s 0 = 48 ∧ ¬ at' s (s.length - 1) = 48 ∧ -1000 ≤ e ∧ e ≤ 1000

instance (s : List UInt8) : Decidable (digs s) := by
  unfold digs
  infer_instance
instance (neg : Bool) (s : List UInt8) (e : Int) : Decidable (RightP neg s e) := by
  unfold RightP
  infer_instance

def rightB (neg : Bool) (s : List UInt8) (e : Int) : Bool := decide (RightP neg s e)

theorem digit_ctr (c : Int) : Ctr Tryd.prog 88 [.i .u8 c] (.b (decide (48 ≤ c ∧ c ≤ 57))) := by
  refine r_fun Tryd.func88 rfl Tryd.ntmps88 Tryd.results88 rfl rfl fun X hL hX => ?_
  repeat' (first |with_reducible (first |refine t_seq ?_|refine t_region ?_|refine c_nil ?_|refine n_then ?_|refine t_ret ?_|refine t_skip ?_|refine t_exit ?_|refine t_block ?_|refine n_block ?_|refine e_then ?_|refine x_then ?_|refine x_block ?_|refine t_draw ?_)|refine r_val rfl rfl True.intro ?_|refine r_gskip rfl rfl rfl ?_|refine r_gskip2 rfl rfl rfl ?_|refine r_gval rfl rfl rfl rfl True.intro ?_|refine t_true rfl ?_|refine t_false rfl ?_|((first |refine t_cond_d rfl ?_ ?_|refine t_cond_i rfl ?_ ?_|refine t_cond_j rfl ?_ ?_|refine t_cond_s rfl ?_ ?_|refine t_cond_n rfl ?_ ?_|refine t_cond rfl ?_ ?_|refine c_split_d rfl rfl ?_ ?_|refine c_split_i rfl rfl ?_ ?_|refine c_split_j rfl rfl ?_ ?_|refine c_split_s rfl rfl ?_ ?_|refine c_split_n rfl rfl ?_ ?_)<;>intro<;>try (first |contradiction|(exfalso;omega)))|((first |refine r_val rfl rfl ?_ ?_|refine r_gval rfl rfl rfl rfl ?_ ?_|refine r_obj rfl rfl ?_ ?_|refine r_sto rfl ?_ ?_|refine r_gobj rfl rfl rfl rfl ?_ ?_);focus (first |omega|exact le_ rfl|((repeat first |rw [wrap_u8]|rw [IntKind.wrap_i64]|rw [IntKind.wrap_i32]|rw [wrap_u32']|rw [wrap_u64']);(repeat' refine And.intro ?_ ?_)<;>omega)|((repeat' refine And.intro ?_ ?_)<;>first |omega|rfl|exact Nat.le_refl _|exact le_ rfl|exact bytesF_one _)|(simp_all;done)|(simp_all;omega)))|refine e_hit rfl ?_|refine e_miss rfl ?_|with_reducible refine ⟨by kernel_rfl, ?_⟩|refine x_end rfl ?_|((with_reducible refine c_grd ?_);(fail_if_success (refine c_lit true rfl rfl rfl ?_));(fail_if_success (refine c_lit false rfl rfl rfl ?_));refine c_split rfl rfl (fun _ => ?_) (fun _ => ?_)))
  · congr 1
    simp [*]
  · congr 1
    simp [*]

theorem snoc_casesU (l : List UInt8) : l = [] ∨ ∃ r w, l = r ++ [w] := by
  rcases List.eq_nil_or_concat l with h | ⟨r, w, h⟩
  · exact .inl h
  · exact .inr ⟨r, w, by simpa using h⟩

theorem take_snoc (s : List UInt8) (i : Nat) (h : i < s.length) : s.take (i + 1) = s.take i ++ [s.getD i 0] := by
  rw [List.take_add_one, List.getD_eq_getElem?_getD, List.getElem?_eq_getElem h]
  rfl

abbrev tL (s : List UInt8) : List UInt8 := Lib.trimLeftB s 48
abbrev tR (s : List UInt8) : List UInt8 := Lib.trimRightB s 48

theorem at_last (r : List UInt8) (c : UInt8) : at' (r ++ [c]) (r.length : Int) = (c.toNat : Int) := by
  simp [at', List.getD_eq_getElem?_getD]

theorem tR_snoc_eq (r : List UInt8) : tR (r ++ [48]) = tR r := by simp [tR, Lib.trimRightB]
theorem tR_snoc_ne (r : List UInt8) (c : UInt8) (h : ¬ c = 48) : tR (r ++ [c]) = r ++ [c] := by simp [tR, Lib.trimRightB, h]

theorem u8_eq {c : UInt8} {n : Nat} (h : n < 256) : (c.toNat : Int) = n ↔ c = UInt8.ofNat n := byte_eq c n h

theorem tR_step (s : List UInt8) (h0 : ¬ s.length = 0) (h : at' s (s.length - 1) = 48) : tR (s.take (s.length - 1)) = tR s := by
  rcases snoc_casesU s with rfl | ⟨r, c, rfl⟩
  · simp at h0
  · have e : ((r ++ [c]).length : Int) - 1 = r.length := by simp
    rw [e, at_last] at h
    obtain rfl : c = 48 := (u8_eq (n := 48) (by omega)).1 h
    rw [tR_snoc_eq]
    simp

theorem tR_stop (s : List UInt8) (h : s.length = 0 ∨ ¬ at' s (s.length - 1) = 48) : tR s = s := by
  rcases snoc_casesU s with rfl | ⟨r, c, rfl⟩
  · rfl
  · have e : ((r ++ [c]).length : Int) - 1 = r.length := by simp
    rw [e, at_last] at h
    refine tR_snoc_ne r c fun hc => ?_
    subst hc
    rcases h with h | h
    · simp at h
    · exact h rfl

theorem tL_step (s : List UInt8) (h0 : ¬ s.length = 0) (h : at' s 0 = 48) : tL (s.drop 1) = tL s := by
  match s, h0 with
  | c :: r, _ =>
    have h : (c.toNat : Int) = 48 := h
    obtain rfl : c = 48 := (u8_eq (n := 48) (by omega)).1 h
    simp [tL, Lib.trimLeftB]

theorem tL_stop (s : List UInt8) (h : s.length = 0 ∨ ¬ at' s 0 = 48) : tL s = s := by
  match s with
  | [] => rfl
  | c :: r =>
    have h : ¬ (c.toNat : Int) = 48 := by
      rcases h with h | h
      · simp at h
      · exact h
    have : ¬ c = 48 := fun e => h (by rw [e]; rfl)
    simp [tL, Lib.trimLeftB, this]

theorem tL_len (s : List UInt8) : (tL s).length ≤ s.length := by
  unfold tL Lib.trimLeftB
  induction s with
  | nil => simp
  | cons c r ih =>
    rw [List.dropWhile_cons]
    split
    · simp only [List.length_cons]
      omega
    · simp
theorem tR_len (s : List UInt8) : (tR s).length ≤ s.length := by
  have := tL_len s.reverse
  unfold tR Lib.trimRightB
  unfold tL Lib.trimLeftB at this
  simpa using this

def normF (neg : Bool) (s : List UInt8) (e : Int) : (Bool × List UInt8 × Int) × Int :=
  if (tL (tR s)).length = 0 then ((false, [], 0), 0)
  else if 100 < (tL (tR s)).length then ((false, [], 0), 5)
  else if e + (s.length - (tR s).length) < -1000 ∨ 1000 < e + (s.length - (tR s).length) then ((false, [], 0), 8)
  else ((neg, tL (tR s), e + (s.length - (tR s).length)), 0)

abbrev dcV (x : Bool × List UInt8 × Int) : D := dcD x.1 x.2.1 x.2.2

end Go.Proofs.YtbegohehjkjnmaaDoor.Flow

namespace Go.Proofs
open Go.Shelf
def Tryd.lays161_ren : Go.Shelf.Ren := ⟨fun | 161 => 93 | 231 => 102 | 227 => 99 | 233 => 103 | 235 => 104 | 228 => 107 | 197 => 110 | 151 => 109 | 260 => 113 | 152 => 112 | 137 => 44 | 119 => 114 | 224 => 115 | 225 => 116 | 217 => 64 | 266 => 85 | n => n, fun | 9 => 9 | 4 => 4 | 3 => 3 | 5 => 5 | 117 => 143 | 116 => 142 | 0 => 0 | 124 => 146 | 105 => 148 | 21 => 21 | 119 => 128 | 46 => 132 | 139 => 131 | 138 => 130 | n => n, fun | 3 => 0 | 4 => 1 | n => n⟩
theorem Tryd.lays161 : Go.Proofs.Lays.n161 Tryd.prog Tryd.lays161_ren := {
  mixed := by kernel_rfl
  f119 := Tryd.func114.trans (congrArg some (by kernel_rfl))
  f137 := Tryd.func44.trans (congrArg some (by kernel_rfl))
  f151 := Tryd.func109.trans (congrArg some (by kernel_rfl))
  f152 := Tryd.func112.trans (congrArg some (by kernel_rfl))
  f161 := Tryd.func93.trans (congrArg some (by kernel_rfl))
  f197 := Tryd.func110.trans (congrArg some (by kernel_rfl))
  f217 := Tryd.func64.trans (congrArg some (by kernel_rfl))
  f224 := Tryd.func115.trans (congrArg some (by kernel_rfl))
  f225 := Tryd.func116.trans (congrArg some (by kernel_rfl))
  f227 := Tryd.func99.trans (congrArg some (by kernel_rfl))
  f228 := Tryd.func107.trans (congrArg some (by kernel_rfl))
  f231 := Tryd.func102.trans (congrArg some (by kernel_rfl))
  f233 := Tryd.func103.trans (congrArg some (by kernel_rfl))
  f235 := Tryd.func104.trans (congrArg some (by kernel_rfl))
  f260 := Tryd.func113.trans (congrArg some (by kernel_rfl))
  f266 := Tryd.func85.trans (congrArg some (by kernel_rfl))
  t0 := Tryd.underlying0
  a0 := Tryd.isAgg0
  z0 := Tryd.sizeOf0
  v0 := Tryd.zeroValue0
  t3 := Tryd.underlying3
  a3 := Tryd.isAgg3
  z3 := Tryd.sizeOf3
  v3 := Tryd.zeroValue3
  t4 := Tryd.underlying4
  a4 := Tryd.isAgg4
  z4 := Tryd.sizeOf4
  v4 := Tryd.zeroValue4
  t5 := Tryd.underlying5
  a5 := Tryd.isAgg5
  z5 := Tryd.sizeOf5
  v5 := Tryd.zeroValue5
  t9 := Tryd.underlying9
  a9 := Tryd.isAgg9
  z9 := Tryd.sizeOf9
  v9 := Tryd.zeroValue9
  t21 := Tryd.underlying21
  a21 := Tryd.isAgg21
  z21 := Tryd.sizeOf21
  v21 := Tryd.zeroValue21
  t46 := Tryd.underlying132
  a46 := Tryd.isAgg132
  z46 := Tryd.sizeOf132
  v46 := Tryd.zeroValue132
  t105 := Tryd.underlying148
  a105 := Tryd.isAgg148
  z105 := Tryd.sizeOf148
  v105 := Tryd.zeroValue148
  t116 := Tryd.underlying142
  a116 := Tryd.isAgg142
  z116 := Tryd.sizeOf142
  t117 := Tryd.underlying143
  a117 := Tryd.isAgg143
  z117 := Tryd.sizeOf143
  v117 := Tryd.zeroValue143
  t119 := Tryd.underlying128
  a119 := Tryd.isAgg128
  z119 := Tryd.sizeOf128
  t124 := Tryd.underlying146
  a124 := Tryd.isAgg146
  z124 := Tryd.sizeOf146
  v124 := Tryd.zeroValue146
  t138 := Tryd.underlying130
  a138 := Tryd.isAgg130
  z138 := Tryd.sizeOf130
  v138 := Tryd.zeroValue130
  t139 := Tryd.underlying131
  a139 := Tryd.isAgg131
  z139 := Tryd.sizeOf131
  v139 := Tryd.zeroValue131
  g3 := by kernel_rfl
  g4 := by kernel_rfl }
open Go.RowKit in
theorem Tryd.strings_TrimLeft_one (s : ByteArray) (c : UInt8) (hc : c.toNat < 128) (w : World) :
    Calls Tryd.prog 93 #[.string s, .string ⟨#[c]⟩] w fun e w' => e = .returned (.string ⟨(Lib.trimLeftB s.data.toList c).toArray⟩) ∧ w' = w := Any.strings_TrimLeft_one Tryd.lays161 s c hc w
def Tryd.lays162_ren : Go.Shelf.Ren := ⟨fun | 162 => 92 | 232 => 98 | 227 => 99 | 234 => 100 | 236 => 101 | 228 => 107 | 271 => 108 | 151 => 109 | 120 => 111 | 197 => 110 | 152 => 112 | 260 => 113 | 137 => 44 | 119 => 114 | 224 => 115 | 225 => 116 | 217 => 64 | 266 => 85 | n => n, fun | 9 => 9 | 4 => 4 | 3 => 3 | 5 => 5 | 117 => 143 | 116 => 142 | 0 => 0 | 124 => 146 | 21 => 21 | 105 => 148 | 46 => 132 | 119 => 128 | 139 => 131 | 138 => 130 | n => n, fun | 3 => 0 | 4 => 1 | n => n⟩
theorem Tryd.lays162 : Go.Proofs.Lays.n162 Tryd.prog Tryd.lays162_ren := {
  mixed := by kernel_rfl
  f119 := Tryd.func114.trans (congrArg some (by kernel_rfl))
  f120 := Tryd.func111.trans (congrArg some (by kernel_rfl))
  f137 := Tryd.func44.trans (congrArg some (by kernel_rfl))
  f151 := Tryd.func109.trans (congrArg some (by kernel_rfl))
  f152 := Tryd.func112.trans (congrArg some (by kernel_rfl))
  f162 := Tryd.func92.trans (congrArg some (by kernel_rfl))
  f197 := Tryd.func110.trans (congrArg some (by kernel_rfl))
  f217 := Tryd.func64.trans (congrArg some (by kernel_rfl))
  f224 := Tryd.func115.trans (congrArg some (by kernel_rfl))
  f225 := Tryd.func116.trans (congrArg some (by kernel_rfl))
  f227 := Tryd.func99.trans (congrArg some (by kernel_rfl))
  f228 := Tryd.func107.trans (congrArg some (by kernel_rfl))
  f232 := Tryd.func98.trans (congrArg some (by kernel_rfl))
  f234 := Tryd.func100.trans (congrArg some (by kernel_rfl))
  f236 := Tryd.func101.trans (congrArg some (by kernel_rfl))
  f260 := Tryd.func113.trans (congrArg some (by kernel_rfl))
  f266 := Tryd.func85.trans (congrArg some (by kernel_rfl))
  f271 := Tryd.func108.trans (congrArg some (by kernel_rfl))
  t0 := Tryd.underlying0
  a0 := Tryd.isAgg0
  z0 := Tryd.sizeOf0
  v0 := Tryd.zeroValue0
  t3 := Tryd.underlying3
  a3 := Tryd.isAgg3
  z3 := Tryd.sizeOf3
  v3 := Tryd.zeroValue3
  t4 := Tryd.underlying4
  a4 := Tryd.isAgg4
  z4 := Tryd.sizeOf4
  v4 := Tryd.zeroValue4
  t5 := Tryd.underlying5
  a5 := Tryd.isAgg5
  z5 := Tryd.sizeOf5
  v5 := Tryd.zeroValue5
  t9 := Tryd.underlying9
  a9 := Tryd.isAgg9
  z9 := Tryd.sizeOf9
  v9 := Tryd.zeroValue9
  t21 := Tryd.underlying21
  a21 := Tryd.isAgg21
  z21 := Tryd.sizeOf21
  v21 := Tryd.zeroValue21
  t46 := Tryd.underlying132
  a46 := Tryd.isAgg132
  z46 := Tryd.sizeOf132
  v46 := Tryd.zeroValue132
  t105 := Tryd.underlying148
  a105 := Tryd.isAgg148
  z105 := Tryd.sizeOf148
  v105 := Tryd.zeroValue148
  t116 := Tryd.underlying142
  a116 := Tryd.isAgg142
  z116 := Tryd.sizeOf142
  t117 := Tryd.underlying143
  a117 := Tryd.isAgg143
  z117 := Tryd.sizeOf143
  v117 := Tryd.zeroValue143
  t119 := Tryd.underlying128
  a119 := Tryd.isAgg128
  z119 := Tryd.sizeOf128
  t124 := Tryd.underlying146
  a124 := Tryd.isAgg146
  z124 := Tryd.sizeOf146
  v124 := Tryd.zeroValue146
  t138 := Tryd.underlying130
  a138 := Tryd.isAgg130
  z138 := Tryd.sizeOf130
  v138 := Tryd.zeroValue130
  t139 := Tryd.underlying131
  a139 := Tryd.isAgg131
  z139 := Tryd.sizeOf131
  v139 := Tryd.zeroValue131
  g3 := by kernel_rfl
  g4 := by kernel_rfl }
open Go.RowKit in
theorem Tryd.strings_TrimRight_one (s : ByteArray) (c : UInt8) (hc : c.toNat < 128) (w : World) (hs : s.size ≤ 9223372036854775807) :
    Calls Tryd.prog 92 #[.string s, .string ⟨#[c]⟩] w fun e w' => e = .returned (.string ⟨(Lib.trimRightB s.data.toList c).toArray⟩) ∧ w' = w := Any.strings_TrimRight_one Tryd.lays162 s c hc w hs
def Tryd.lays137_ren : Go.Shelf.Ren := ⟨fun | 137 => 44 | 217 => 64 | 266 => 85 | n => n, fun | 9 => 9 | 5 => 5 | 3 => 3 | n => n, fun | n => n⟩
theorem Tryd.lays137 : Go.Proofs.Lays.n137 Tryd.prog Tryd.lays137_ren := {
  mixed := by kernel_rfl
  f137 := Tryd.func44.trans (congrArg some (by kernel_rfl))
  f217 := Tryd.func64.trans (congrArg some (by kernel_rfl))
  f266 := Tryd.func85.trans (congrArg some (by kernel_rfl))
  t3 := Tryd.underlying3
  a3 := Tryd.isAgg3
  z3 := Tryd.sizeOf3
  v3 := Tryd.zeroValue3
  t5 := Tryd.underlying5
  a5 := Tryd.isAgg5
  z5 := Tryd.sizeOf5
  v5 := Tryd.zeroValue5
  t9 := Tryd.underlying9
  a9 := Tryd.isAgg9
  z9 := Tryd.sizeOf9
  v9 := Tryd.zeroValue9 }
open Go.RowKit in
theorem Tryd.strings_IndexByte (s : ByteArray) (c : Int) (w : World) :
    Calls Tryd.prog 44 #[.string s, .int .u8 c] w fun e w' => e = .returned (.int .i64 (Lib.indexByte s.data.toList c.toNat.toUInt8)) ∧ w' = w := Any.strings_IndexByte Tryd.lays137 s c w
def Tryd.lays99_ren : Go.Shelf.Ren := ⟨fun | 99 => 60 | 206 => 75 | n => n, fun | 9 => 9 | 4 => 4 | 3 => 3 | n => n, fun | n => n⟩
theorem Tryd.lays99 : Go.Proofs.Lays.n99 Tryd.prog Tryd.lays99_ren := {
  mixed := by kernel_rfl
  f99 := Tryd.func60.trans (congrArg some (by kernel_rfl))
  f206 := Tryd.func75.trans (congrArg some (by kernel_rfl))
  t3 := Tryd.underlying3
  a3 := Tryd.isAgg3
  z3 := Tryd.sizeOf3
  v3 := Tryd.zeroValue3
  t4 := Tryd.underlying4
  a4 := Tryd.isAgg4
  z4 := Tryd.sizeOf4
  v4 := Tryd.zeroValue4
  t9 := Tryd.underlying9
  a9 := Tryd.isAgg9
  z9 := Tryd.sizeOf9
  v9 := Tryd.zeroValue9 }
open Go.RowKit Go.Lib in
theorem Tryd.strings_HasPrefix (s p : ByteArray) (w : World) :
    Calls Tryd.prog 60 #[.string s, .string p] w fun e w' => e = .returned (.bool (Lib.hasPrefix s.data.toList p.data.toList)) ∧ w' = w := Any.strings_HasPrefix Tryd.lays99 s p w
end Go.Proofs

namespace Go.Proofs.YtbegohehjkjnmaaDoor.Flow
open Go

theorem two_of {vs : Array Value} (h : vs.size = 2) : vs = #[vs.getD 0 undef, vs.getD 1 undef] := by
  obtain ⟨l⟩ := vs
  match l, h with
  | [a, b], _ => rfl
theorem one_of {vs : Array Value} (h : vs.size = 1) : vs = #[vs.getD 0 undef] := by
  obtain ⟨l⟩ := vs
  match l, h with
  | [a], _ => rfl

theorem hist_same (w : World) (S : Cells) (hv : ∀ b o, S b o → b < w.heap.size) (hg : GOk S w) : Hist { w0 := w, S0 := S, L := fun _ => False } w S := hist_start w S _ hv hg

theorem trimRight_ctr (s : List UInt8) (c : UInt8) (hs : s.length ≤ 9223372036854775807) (hc : c.toNat < 128 := by decide) : Ctr Tryd.prog 92 [.s s, .s [c]] (.s (Lib.trimRightB s c)) := by
  intro w S vs hv hg hn hr
  have h0 := hr 0 (by simp)
  have h1 := hr 1 (by simp)
  rw [two_of hn]
  generalize vs.getD 0 undef = v0 at *
  generalize vs.getD 1 undef = v1 at *
  cases h0
  cases h1
  refine (Tryd.strings_TrimRight_one ⟨s.toArray⟩ c hc w (by simpa [ByteArray.size] using hs)).mono ?_
  rintro e w' ⟨rfl, rfl⟩
  exact ⟨_, S, rfl, .s _ _, hist_same _ S hv hg⟩

theorem trimLeft_ctr (s : List UInt8) (c : UInt8) (hc : c.toNat < 128 := by decide) : Ctr Tryd.prog 93 [.s s, .s [c]] (.s (Lib.trimLeftB s c)) := by
  intro w S vs hv hg hn hr
  have h0 := hr 0 (by simp)
  have h1 := hr 1 (by simp)
  rw [two_of hn]
  generalize vs.getD 0 undef = v0 at *
  generalize vs.getD 1 undef = v1 at *
  cases h0
  cases h1
  refine (Tryd.strings_TrimLeft_one ⟨s.toArray⟩ c hc w).mono ?_
  rintro e w' ⟨rfl, rfl⟩
  exact ⟨_, S, rfl, .s _ _, hist_same _ S hv hg⟩

theorem indexByte_ctr (s : List UInt8) (c : Int) : Ctr Tryd.prog 44 [.s s, .i .u8 c] (.i .i64 (Lib.indexByte s c.toNat.toUInt8)) := by
  intro w S vs hv hg hn hr
  have h0 := hr 0 (by simp)
  have h1 := hr 1 (by simp)
  rw [two_of hn]
  generalize vs.getD 0 undef = v0 at *
  generalize vs.getD 1 undef = v1 at *
  cases h0
  cases h1
  refine (Tryd.strings_IndexByte ⟨s.toArray⟩ c w).mono ?_
  rintro e w' ⟨rfl, rfl⟩
  exact ⟨_, S, rfl, .i _ _ _, hist_same _ S hv hg⟩

set_option maxHeartbeats 1000000 in
theorem norm_ctr (neg : Bool) (s : List UInt8) (e : Int) (hs : s.length ≤ 1099511627776) (h1 : -4611686018427387904 ≤ e) (h2 : e ≤ 4611686018427387904) :
    Ctr Tryd.prog 84 [.b neg, .s s, .i .i64 e] (.tu [dcV (normF neg s e).1, .i .i64 (normF neg s e).2]) := by
  have c1 := trimRight_ctr s 48 (by omega)
  have c2 := trimLeft_ctr (tR s) 48
  have l1 := tR_len s
  have l2 := tL_len (tR s)
  generalize hR : normF neg s e = R
  unfold normF at hR
  replace hR := fun _ : Unit => hR.symm
  change Ctr _ _ _ (.s (tR s)) at c1
  change Ctr _ _ _ (.s (tL (tR s))) at c2
  generalize tL (tR s) = d at *
  have hne : ¬ d = ({ data := #[] } : ByteArray).data.toList → ¬ d.length = 0 := fun h h2 => h (List.length_eq_zero_iff.1 h2)
  generalize tR s = r at *
  refine r_fun Tryd.func84 rfl Tryd.ntmps84 Tryd.results84 rfl rfl fun X hL hX => ?_
  repeat' (first |with_reducible (first |refine t_seq ?_|refine t_region ?_|refine c_nil ?_|refine n_then ?_|refine t_ret ?_|refine t_skip ?_|refine t_exit ?_|refine t_block ?_|refine n_block ?_|refine e_then ?_|refine x_then ?_|refine x_block ?_|refine t_draw ?_)|refine r_val rfl rfl True.intro ?_|refine r_gskip rfl rfl rfl ?_|refine r_gskip2 rfl rfl rfl ?_|refine r_gval rfl rfl rfl rfl True.intro ?_|refine t_true rfl ?_|refine t_false rfl ?_|((first |refine t_cond_d rfl ?_ ?_|refine t_cond_i rfl ?_ ?_|refine t_cond_j rfl ?_ ?_|refine t_cond_s rfl ?_ ?_|refine t_cond_n rfl ?_ ?_|refine t_cond rfl ?_ ?_|refine c_split_d rfl rfl ?_ ?_|refine c_split_i rfl rfl ?_ ?_|refine c_split_j rfl rfl ?_ ?_|refine c_split_s rfl rfl ?_ ?_|refine c_split_n rfl rfl ?_ ?_)<;>intro<;>try (first |contradiction|(exfalso;omega)))|((first |refine r_val rfl rfl ?_ ?_|refine r_gval rfl rfl rfl rfl ?_ ?_|refine r_obj rfl rfl ?_ ?_|refine r_sto rfl ?_ ?_|refine r_gobj rfl rfl rfl rfl ?_ ?_);focus (first |omega|exact le_ rfl|((repeat first |rw [wrap_u8]|rw [IntKind.wrap_i64]|rw [IntKind.wrap_i32]|rw [wrap_u32']|rw [wrap_u64']);(repeat' refine And.intro ?_ ?_)<;>omega)|((repeat' refine And.intro ?_ ?_)<;>first |omega|rfl|exact Nat.le_refl _|exact le_ rfl|exact bytesF_one _)|(simp_all;done)|(simp_all;omega)))|refine e_hit rfl ?_|refine e_miss rfl ?_|with_reducible refine ⟨by kernel_rfl, ?_⟩|refine x_end rfl ?_|refine r_call (f := 92) rfl rfl Tryd.call92 rfl c1 ?_|refine r_call (f := 93) rfl rfl Tryd.call93 rfl c2 ?_|((with_reducible refine c_grd ?_);(fail_if_success (refine c_lit true rfl rfl rfl ?_));(fail_if_success (refine c_lit false rfl rfl rfl ?_));refine c_split rfl rfl (fun _ => ?_) (fun _ => ?_)))
  · rename_i h
    rw [hR (), if_pos (by rw [h]; rfl)]
    rfl
  · rw [hR (), if_neg (hne ‹_›), if_pos (by omega)]
    rfl
  · rw [hR (), if_neg (hne ‹_›), if_neg (by omega), if_pos (by omega)]
    rfl
  · rw [hR (), if_neg (hne ‹_›), if_neg (by omega), if_pos (by omega)]
    rfl
  · rw [hR (), if_neg (hne ‹_›), if_neg (by omega), if_neg (by omega)]
    rfl

def isD (c : UInt8) : Bool := decide (48 ≤ (c.toNat : Int) ∧ (c.toNat : Int) ≤ 57)
theorem isD_iff {c : UInt8} : isD c = true ↔ 48 ≤ (c.toNat : Int) ∧ (c.toNat : Int) ≤ 57 := by simp [isD]

def dgT (s : List UInt8) (i : Nat) : List UInt8 := (s.drop i).takeWhile isD

theorem drop_cons {s : List UInt8} {i : Nat} (h : i < s.length) : s.drop i = s.getD i 0 :: s.drop (i + 1) := by
  rw [List.drop_eq_getElem_cons h]
  simp [List.getD_eq_getElem?_getD, h]

theorem dgT_more {s : List UInt8} {i : Nat} (h : i < s.length) (h2 : 48 ≤ at' s i ∧ at' s i ≤ 57) : dgT s i = s.getD i 0 :: dgT s (i + 1) := by
  unfold dgT
  rw [drop_cons h, List.takeWhile_cons, if_pos]
  exact isD_iff.2 h2

theorem dgT_stop {s : List UInt8} {i : Nat} (h : ¬ i < s.length ∨ ¬ (48 ≤ at' s i ∧ at' s i ≤ 57)) : dgT s i = [] := by
  unfold dgT
  by_cases hi : i < s.length
  · rw [drop_cons hi, List.takeWhile_cons, if_neg]
    intro h2
    rcases h with h | h
    · exact h hi
    · exact h (isD_iff.1 h2)
  · rw [List.drop_eq_nil_of_le (by omega)]
    rfl

theorem takeWhile_take {p : UInt8 → Bool} : ∀ l : List UInt8, l.take (l.takeWhile p).length = l.takeWhile p
  | [] => by simp
  | c :: r => by
    rw [List.takeWhile_cons]
    split
    · simp [takeWhile_take r]
    · simp

theorem dgT_len (s : List UInt8) (i : Nat) : (dgT s i).length ≤ s.length - i := by
  have := List.takeWhile_sublist (p := isD) (l := s.drop i)
  have := this.length_le
  unfold dgT
  simpa using this

theorem dgT_cut (s : List UInt8) (i : Nat) : (s.take (i + (dgT s i).length)).drop i = dgT s i := by
  rw [List.drop_take, show i + (dgT s i).length - i = (dgT s i).length by omega]
  exact takeWhile_take _

theorem dgT_digit (s : List UInt8) (i : Nat) : ∀ c ∈ dgT s i, isD c = true := fun c hc => by
  unfold dgT at hc
  generalize s.drop i = l at hc
  induction l with
  | nil => simp at hc
  | cons a r ih =>
    rw [List.takeWhile_cons] at hc
    split at hc
    · rcases List.mem_cons.1 hc with rfl | hc
      · assumption
      · exact ih hc
    · simp at hc

def sat (s : List UInt8) (i : Nat) (c : Int) : Prop := i < s.length ∧ at' s i = c
instance (s : List UInt8) (i : Nat) (c : Int) : Decidable (sat s i c) := by unfold sat; infer_instance

def whN (s : List UInt8) (i : Nat) : List UInt8 × Nat := if sat s i 48 then ([48], i + 1) else (dgT s i, i + (dgT s i).length)
def frN (s : List UInt8) (j : Nat) : List UInt8 × Nat := if sat s j 46 ∧ ¬ dgT s (j + 1) = [] then (dgT s (j + 1), j + 1 + (dgT s (j + 1)).length) else ([], j)
def sgN (s : List UInt8) (a : Nat) : Nat := if sat s a 43 ∨ sat s a 45 then a + 1 else a
def exN (pw : List UInt8 → Int) (s : List UInt8) (k : Nat) : Int × Nat :=
  if (sat s k 101 ∨ sat s k 69) ∧ ¬ dgT s (sgN s (k + 1)) = [] then
    (if sat s (k + 1) 45 then -pw (dgT s (sgN s (k + 1))) else pw (dgT s (sgN s (k + 1))), sgN s (k + 1) + (dgT s (sgN s (k + 1))).length)
  else (0, k)

def sg0 (s : List UInt8) : Nat := if sat s 0 45 then 1 else 0

def parseG (pw : List UInt8 → Int) (s : List UInt8) : (Bool × List UInt8 × Int) × Nat × Int :=
  if (whN s (sg0 s)).1 = [] then ((false, [], 0), 0, 3)
  else
    let w := whN s (sg0 s)
    let f := frN s w.2
    let x := exN pw s f.2
    let r := normF (decide (sat s 0 45)) (w.1 ++ f.1) (x.1 - f.1.length)
    if r.2 = 0 then (r.1, x.2, 0) else ((false, [], 0), 0, r.2)

def powP (x : List UInt8) : Int := x.foldl (fun n c => min (10 * n + ((c.toNat : Int) - 48)) 1099511627776) 0
def powR (x : List UInt8) : Int := x.foldl (fun n c => if n < 1000000000 then 10 * n + (c.toNat : Int) - 48 else n) 0

theorem pow_both : ∀ (x : List UInt8) (a b : Int), (∀ c ∈ x, isD c = true) → 0 ≤ a → (a = b ∧ a < 1000000000 ∨ 1000000000 ≤ a ∧ 1000000000 ≤ b) →
    let p := x.foldl (fun n c => min (10 * n + ((c.toNat : Int) - 48)) 1099511627776) a
    let r := x.foldl (fun n c => if n < 1000000000 then 10 * n + (c.toNat : Int) - 48 else n) b
    0 ≤ p ∧ (p = r ∧ p < 1000000000 ∨ 1000000000 ≤ p ∧ 1000000000 ≤ r)
  | [], a, b, _, h0, h => ⟨h0, h⟩
  | c :: x, a, b, hx, h0, h => by
    have hc := isD_iff.1 (hx c (by simp))
    simp only [List.foldl_cons]
    refine pow_both x _ _ (fun c h => hx c (by simp [h])) (by omega) ?_
    split <;> omega

theorem pow_eq (x : List UInt8) (hx : ∀ c ∈ x, isD c = true) : 0 ≤ powP x ∧ (powP x = powR x ∧ powP x < 1000000000 ∨ 1000000000 ≤ powP x ∧ 1000000000 ≤ powR x) := pow_both x 0 0 hx (by omega) (.inl ⟨rfl, by omega⟩)

theorem powP_le : ∀ (x : List UInt8) (a : Int), a ≤ 1099511627776 → x.foldl (fun n c => min (10 * n + ((c.toNat : Int) - 48)) 1099511627776) a ≤ 1099511627776
  | [], a, h => h
  | c :: x, a, h => by
    simp only [List.foldl_cons]
    exact powP_le x _ (by omega)

theorem norm_far (neg : Bool) (d : List UInt8) (e e' : Int) (h1 : d.length ≤ 20000) (h : e = e' ∨ (100000 ≤ e ∧ 100000 ≤ e') ∨ (e ≤ -100000 ∧ e' ≤ -100000)) : normF neg d e = normF neg d e' := by
  have l := tR_len d
  rcases h with rfl | h
  · rfl
  · unfold normF
    split
    · rfl
    · split
      · rfl
      · rw [if_pos (by omega), if_pos (by omega)]

theorem parse_same (s : List UInt8) (hs : s.length ≤ 5000) : parseG powP s = parseG powR s := by
  unfold parseG
  split
  · rfl
  · have hf : (frN s (whN s (sg0 s)).2).1.length ≤ 5000 := by
      unfold frN
      split
      · have := dgT_len s ((whN s (sg0 s)).2 + 1)
        dsimp only
        omega
      · simp
    have hw : (whN s (sg0 s)).1.length ≤ 5000 := by
      unfold whN
      split
      · simp
      · have := dgT_len s (sg0 s)
        dsimp only
        omega
    dsimp only
    generalize (frN s (whN s (sg0 s)).2).2 = k
    generalize (frN s (whN s (sg0 s)).2).1 = f at *
    generalize (whN s (sg0 s)).1 = w at *
    have e2 : (exN powP s k).2 = (exN powR s k).2 := by
      unfold exN
      split <;> rfl
    have e1 : normF (decide (sat s 0 45)) (w ++ f) ((exN powP s k).1 - f.length) = normF (decide (sat s 0 45)) (w ++ f) ((exN powR s k).1 - f.length) := by
      refine norm_far _ _ _ _ (by rw [List.length_append]; omega) ?_
      unfold exN
      split
      · have := pow_eq (dgT s (sgN s (k + 1))) (dgT_digit _ _)
        dsimp only
        split <;> omega
      · exact .inl rfl
    rw [e1, e2]

end Go.Proofs.YtbegohehjkjnmaaDoor.Flow
