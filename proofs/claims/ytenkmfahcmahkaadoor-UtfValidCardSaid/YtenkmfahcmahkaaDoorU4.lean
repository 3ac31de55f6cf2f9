/- UTF: the program's reader: a code point in one part or two, what is behind a backslash. -/
import Derived.Test.YtenkmfahcmahkaaDoorU2
import Derived.Test.YtenkmfahcmahkaaDoorU3
namespace Go.Proofs.YtenkmfahcmahkaaDoor.Flow
open Go

/-- Two halves as one code point, as the program reckons it. -/
def pairW (n m : Int) : Int := IntKind.i32.wrap (IntKind.i32.wrap (IntKind.i32.wrap (65536 + IntKind.i32.wrap (IntKind.i32.wrap (n - 55296) * 2 ^ (10 : Int).toNat)) + m) - 56320)
def pairF (n m : Int) : Int := 65536 + 1024 * (n - 55296) + m - 56320
theorem pairW_eq (n m : Int) (h0 : 55296 ≤ n) (h1 : n ≤ 56319) (h2 : 0 ≤ m) (h3 : m < 65536) : pairW n m = pairF n m := by
  unfold pairW pairF
  have e : (2 : Int) ^ Int.toNat 10 = 1024 := by decide
  rw [e, wrap_i32 (n - 55296) (by omega) (by omega), wrap_i32 ((n - 55296) * 1024) (by omega) (by omega), wrap_i32 (65536 + (n - 55296) * 1024) (by omega) (by omega), wrap_i32 (65536 + (n - 55296) * 1024 + m) (by omega) (by omega), wrap_i32 _ (by omega) (by omega)]
  omega

/-- The second half, as the program reads it: its number, the place behind, what is wrong. -/
def lowP (s : List UInt8) (j : Int) : Int × Int × Int :=
  let a := mustF s j 0 92
  let b := mustF s a.1 a.2 117
  let y := fourF s b.1 b.2
  (y.1, y.2.1, if y.1 < 56320 ∨ 57343 < y.1 then failF y.2.2 3 else y.2.2)

theorem mustF_range (s : List UInt8) (i e c : Int) (h : 0 ≤ i) (h2 : i ≤ s.length) : i ≤ (mustF s i e c).1 ∧ (mustF s i e c).1 ≤ s.length ∧ (mustF s i e c).1 ≤ i + 1 := by
  have := nextF_range (e := e) h h2
  unfold mustF
  dsimp only
  omega

/-- A code point: the place behind, what came, what is wrong. -/
def codeP (s : List UInt8) (i : Int) (o : List UInt8) : Int × List UInt8 × Int :=
  let x := fourG s 4 0 i
  if x.2.2 = 0 then
    if 56320 ≤ x.1 ∧ x.1 ≤ 57343 then (x.2.1, o, 3)
    else if 55296 ≤ x.1 ∧ x.1 ≤ 56319 then
      (if (lowP s x.2.1).2.2 = 0 then ((lowP s x.2.1).2.1, o ++ utfB (pairF x.1 (lowP s x.2.1).1), 0) else ((lowP s x.2.1).2.1, o, (lowP s x.2.1).2.2))
    else (x.2.1, o ++ utfB x.1, 0)
  else (x.2.1, o, x.2.2)

section
variable {s : List UInt8} {i j j1 j2 j3 n m e e1 e2 e3 : Int} {o : List UInt8}
theorem lowP_eq (h1 : mustF s j 0 92 = (j1, e1)) (h2 : mustF s j1 e1 117 = (j2, e2)) (h3 : fourF s j2 e2 = (m, j3, e3)) : lowP s j = (m, j3, if m < 56320 ∨ 57343 < m then failF e3 3 else e3) := by
  simp only [lowP, h1, h2, h3]
theorem codeP_bad (h : fourG s 4 0 i = (n, j, e)) (h2 : ¬ e = 0) : codeP s i o = (j, o, e) := by
  simp only [codeP, h]
  rw [if_neg h2]
theorem codeP_low (h : fourG s 4 0 i = (n, j, 0)) (h2 : 56320 ≤ n) (h3 : n ≤ 57343) : codeP s i o = (j, o, 3) := by
  simp only [codeP, h]
  rw [if_pos trivial, if_pos ⟨h2, h3⟩]
theorem codeP_one (h : fourG s 4 0 i = (n, j, 0)) (h2 : n < 55296 ∨ 57343 < n) : codeP s i o = (j, o ++ utfB n, 0) := by
  simp only [codeP, h]
  rw [if_pos trivial, if_neg (by omega), if_neg (by omega)]
theorem codeP_pair (h : fourG s 4 0 i = (n, j, 0)) (h2 : 55296 ≤ n) (h3 : n ≤ 56319) (h4 : lowP s j = (m, j3, 0)) : codeP s i o = (j3, o ++ utfB (pairF n m), 0) := by
  simp only [codeP, h]
  rw [if_pos trivial, if_neg (by omega), if_pos ⟨h2, h3⟩, h4]
  rfl
theorem codeP_half (h : fourG s 4 0 i = (n, j, 0)) (h2 : 55296 ≤ n) (h3 : n ≤ 56319) (h4 : lowP s j = (m, j3, e)) (h5 : ¬ e = 0) : codeP s i o = (j3, o, e) := by
  simp only [codeP, h]
  rw [if_pos trivial, if_neg (by omega), if_pos ⟨h2, h3⟩, h4]
  dsimp only
  rw [if_neg h5]
end

set_option maxHeartbeats 4000000 in
theorem code_ctr (s : List UInt8) (i : Int) (o : List UInt8) (hs : s.length ≤ 1099511627776) (h0 : 0 ≤ i) (h1 : i ≤ s.length) (ho : o.length ≤ 1099511627776) :
    CtrO Tryd.prog 70 [.pv 20 0] (rdl s i o 0) (.tu []) (rdl s (codeP s i o).1 (codeP s i o).2.1 (codeP s i o).2.2) := by
  have hn := four_ctr0 s i o hs h0 h1
  have hr := fourG_range s 4 0 i h0 h1 (by omega)
  generalize hR : codeP s i o = R
  generalize hx : fourG s 4 0 i = x at hn hr
  obtain ⟨n, j, e⟩ := x
  dsimp only at hn hr ⊢
  obtain ⟨r1, r2, r3, r4, r5, r6, _⟩ := hr
  have r2 : n < 65536 := by omega
  by_cases he : e = 0
  · subst he
    have hj0 : 0 ≤ j := by omega
    have q1 := mustF_range s j 0 92 hj0 r4
    have c1 := must_ctr s j o 0 92 hs hj0 r4
    generalize ha : mustF s j 0 92 = a at c1 q1
    obtain ⟨j1, e1⟩ := a
    dsimp only at c1 q1
    have hj1 : 0 ≤ j1 := by omega
    have q2 := mustF_range s j1 e1 117 hj1 q1.2.1
    have c2 := must_ctr s j1 o e1 117 hs hj1 q1.2.1
    generalize hb : mustF s j1 e1 117 = b at c2 q2
    obtain ⟨j2, e2⟩ := b
    dsimp only at c2 q2
    have hj2 : 0 ≤ j2 := by omega
    have q3 := fourF_range s j2 e2 hj2 q2.2.1
    have c3 := four_ctr s j2 o e2 hs hj2 q2.2.1
    generalize hy : fourF s j2 e2 = y at c3 q3
    obtain ⟨m, j3, e3⟩ := y
    dsimp only at c3 q3
    obtain ⟨y1, y2, y3, y4, y5, y6⟩ := q3
    have hne := failF_ne e3 3 (by omega)
    have hp : 55296 ≤ n → n ≤ 56319 → pairW n m = pairF n m := fun a b => pairW_eq n m a b y1 y2
    have hl := lowP_eq ha hb hy
    have hf := fail_ctr s j o 0 3
    have hf3 := fail_ctr s j3 o e3 3
    refine r_methM Tryd.func70 rfl Tryd.ntmps70 Tryd.results70 rfl rfl rfl rfl rfl fun X hL hX => ?_
    repeat' (first
      | with_reducible refine t_seq ?_ | with_reducible refine t_region ?_ | with_reducible refine c_nil ?_ | with_reducible refine n_then ?_
      | with_reducible refine t_ret ?_ | with_reducible refine t_skip ?_ | with_reducible refine t_exit ?_ | with_reducible refine t_block ?_
      | with_reducible refine n_block ?_ | with_reducible refine e_then ?_ | with_reducible refine x_then ?_ | with_reducible refine x_block ?_ | with_reducible refine t_draw ?_
      | refine r_val rfl rfl True.intro ?_ | refine r_gskip rfl rfl rfl ?_ | refine r_gskip2 rfl rfl rfl ?_ | refine r_gval rfl rfl rfl rfl True.intro ?_
      | refine t_true rfl ?_ | refine t_false rfl ?_
      | ((first | refine t_cond_d rfl (fun _ => ?_) (fun _ => ?_) | refine t_cond_i rfl (fun _ => ?_) (fun _ => ?_) | refine t_cond_j rfl (fun _ => ?_) (fun _ => ?_) | refine t_cond_s rfl (fun _ => ?_) (fun _ => ?_) | refine t_cond_n rfl (fun _ => ?_) (fun _ => ?_) | refine t_cond rfl (fun _ => ?_) (fun _ => ?_) | refine c_split_d rfl rfl (fun _ => ?_) (fun _ => ?_) | refine c_split_i rfl rfl (fun _ => ?_) (fun _ => ?_) | refine c_split_j rfl rfl (fun _ => ?_) (fun _ => ?_) | refine c_split_s rfl rfl (fun _ => ?_) (fun _ => ?_) | refine c_split_n rfl rfl (fun _ => ?_) (fun _ => ?_)) <;> try (first | contradiction | (exfalso; omega)))
      | refine r_val rfl rfl (by (first | omega | exact Nat.le_of_ble_eq_true rfl | (simp only [wrap_u8, IntKind.wrap_i64, IntKind.wrap_i32, wrap_u32', wrap_u64', InI]; (repeat' refine And.intro ?_ ?_) <;> omega) | ((repeat' refine And.intro ?_ ?_) <;> first | omega | rfl | exact Nat.le_refl _ | exact Nat.le_of_ble_eq_true rfl | exact bytesF_one _) | (simp_all; done) | (simp_all; omega))) ?_ | refine r_gval rfl rfl rfl rfl (by (first | omega | exact Nat.le_of_ble_eq_true rfl | (simp only [wrap_u8, IntKind.wrap_i64, IntKind.wrap_i32, wrap_u32', wrap_u64', InI]; (repeat' refine And.intro ?_ ?_) <;> omega) | ((repeat' refine And.intro ?_ ?_) <;> first | omega | rfl | exact Nat.le_refl _ | exact Nat.le_of_ble_eq_true rfl | exact bytesF_one _) | (simp_all; done) | (simp_all; omega))) ?_
      | refine r_obj rfl rfl (by (first | omega | exact Nat.le_of_ble_eq_true rfl | (simp only [wrap_u8, IntKind.wrap_i64, IntKind.wrap_i32, wrap_u32', wrap_u64', InI]; (repeat' refine And.intro ?_ ?_) <;> omega) | ((repeat' refine And.intro ?_ ?_) <;> first | omega | rfl | exact Nat.le_refl _ | exact Nat.le_of_ble_eq_true rfl | exact bytesF_one _) | (simp_all; done) | (simp_all; omega))) ?_ | refine r_sto rfl (by (first | omega | exact Nat.le_of_ble_eq_true rfl | (simp only [wrap_u8, IntKind.wrap_i64, IntKind.wrap_i32, wrap_u32', wrap_u64', InI]; (repeat' refine And.intro ?_ ?_) <;> omega) | ((repeat' refine And.intro ?_ ?_) <;> first | omega | rfl | exact Nat.le_refl _ | exact Nat.le_of_ble_eq_true rfl | exact bytesF_one _) | (simp_all; done) | (simp_all; omega))) ?_ | refine r_gobj rfl rfl rfl rfl (by (first | omega | exact Nat.le_of_ble_eq_true rfl | (simp only [wrap_u8, IntKind.wrap_i64, IntKind.wrap_i32, wrap_u32', wrap_u64', InI]; (repeat' refine And.intro ?_ ?_) <;> omega) | ((repeat' refine And.intro ?_ ?_) <;> first | omega | rfl | exact Nat.le_refl _ | exact Nat.le_of_ble_eq_true rfl | exact bytesF_one _) | (simp_all; done) | (simp_all; omega))) ?_
      | refine e_hit rfl ?_ | refine e_miss rfl ?_
      | refine ⟨by kernel_rfl, ?_⟩ | refine x_endM rfl rfl ?_ | refine n_endM rfl rfl ?_ | refine r_lend2 (f := 46) 20 200 rfl rfl Tryd.call46 rfl rfl rfl rfl rfl rfl rfl rfl rfl hf ?_ | refine r_lend2 (f := 46) 20 200 rfl rfl Tryd.call46 rfl rfl rfl rfl rfl rfl rfl rfl rfl hf3 ?_ | refine r_lend2 (f := 43) 20 200 rfl rfl Tryd.call43 rfl rfl rfl rfl rfl rfl rfl rfl rfl c1 ?_ | refine r_lend2 (f := 43) 20 200 rfl rfl Tryd.call43 rfl rfl rfl rfl rfl rfl rfl rfl rfl c2 ?_ | refine r_lend2 (f := 86) 20 200 rfl rfl Tryd.call86 rfl rfl rfl rfl rfl rfl rfl rfl rfl hn ?_ | refine r_lend2 (f := 86) 20 200 rfl rfl Tryd.call86 rfl rfl rfl rfl rfl rfl rfl rfl rfl c3 ?_ | refine r_lend1 (f := 87) 200 rfl rfl Tryd.call87 rfl rfl rfl rfl rfl (rune_ctr o n ho (by omega) (by omega) (by omega)) ?_ | refine r_lend1 (f := 87) 200 rfl rfl Tryd.call87 rfl rfl rfl rfl rfl (rune_ctr o (pairW n m) ho (by rw [hp (by omega) (by omega)]; unfold pairF; omega) (by rw [hp (by omega) (by omega)]; unfold pairF; omega) (by rw [hp (by omega) (by omega)]; unfold pairF; omega)) ?_ | ((with_reducible refine c_grd ?_); (fail_if_success (refine c_lit true rfl rfl rfl ?_)); (fail_if_success (refine c_lit false rfl rfl rfl ?_)); refine c_split rfl rfl (fun _ => ?_) (fun _ => ?_)))
    · rw [← hR, codeP_low hx ‹_› ‹_›]
      exact ⟨⟨rfl, rfl, trivial⟩⟩
    · rw [← hR, codeP_one hx (by omega)]
      exact ⟨⟨rfl, rfl, trivial⟩⟩
    · rw [if_pos (.inl ‹_›)] at hl
      rw [← hR, codeP_half hx (by omega) (by omega) hl hne]
      exact ⟨⟨rfl, rfl, trivial⟩⟩
    · rw [if_pos (.inr ‹_›)] at hl
      rw [← hR, codeP_half hx (by omega) (by omega) hl hne]
      exact ⟨⟨rfl, rfl, trivial⟩⟩
    · rename_i he3
      subst he3
      rw [if_neg (by omega)] at hl
      rw [← hR, codeP_pair hx (by omega) (by omega) hl, hp (by omega) (by omega)]
      exact ⟨⟨rfl, rfl, trivial⟩⟩
    · rw [← hR, codeP_one hx (by omega)]
      exact ⟨⟨rfl, rfl, trivial⟩⟩
  · have hz := r6 he
    subst hz
    refine r_methM Tryd.func70 rfl Tryd.ntmps70 Tryd.results70 rfl rfl rfl rfl rfl fun X hL hX => ?_
    repeat' (first
      | with_reducible refine t_seq ?_ | with_reducible refine t_region ?_ | with_reducible refine c_nil ?_ | with_reducible refine n_then ?_
      | with_reducible refine t_ret ?_ | with_reducible refine t_skip ?_ | with_reducible refine t_exit ?_ | with_reducible refine t_block ?_
      | with_reducible refine n_block ?_ | with_reducible refine e_then ?_ | with_reducible refine x_then ?_ | with_reducible refine x_block ?_ | with_reducible refine t_draw ?_
      | refine r_val rfl rfl True.intro ?_ | refine r_gskip rfl rfl rfl ?_ | refine r_gskip2 rfl rfl rfl ?_ | refine r_gval rfl rfl rfl rfl True.intro ?_
      | refine t_true rfl ?_ | refine t_false rfl ?_
      | ((first | refine t_cond_d rfl (fun _ => ?_) (fun _ => ?_) | refine t_cond_i rfl (fun _ => ?_) (fun _ => ?_) | refine t_cond_j rfl (fun _ => ?_) (fun _ => ?_) | refine t_cond_s rfl (fun _ => ?_) (fun _ => ?_) | refine t_cond_n rfl (fun _ => ?_) (fun _ => ?_) | refine t_cond rfl (fun _ => ?_) (fun _ => ?_) | refine c_split_d rfl rfl (fun _ => ?_) (fun _ => ?_) | refine c_split_i rfl rfl (fun _ => ?_) (fun _ => ?_) | refine c_split_j rfl rfl (fun _ => ?_) (fun _ => ?_) | refine c_split_s rfl rfl (fun _ => ?_) (fun _ => ?_) | refine c_split_n rfl rfl (fun _ => ?_) (fun _ => ?_)) <;> try (first | contradiction | (exfalso; omega)))
      | refine r_val rfl rfl (by (first | omega | exact Nat.le_of_ble_eq_true rfl | (simp only [wrap_u8, IntKind.wrap_i64, IntKind.wrap_i32, wrap_u32', wrap_u64', InI]; (repeat' refine And.intro ?_ ?_) <;> omega) | ((repeat' refine And.intro ?_ ?_) <;> first | omega | rfl | exact Nat.le_refl _ | exact Nat.le_of_ble_eq_true rfl | exact bytesF_one _) | (simp_all; done) | (simp_all; omega))) ?_ | refine r_gval rfl rfl rfl rfl (by (first | omega | exact Nat.le_of_ble_eq_true rfl | (simp only [wrap_u8, IntKind.wrap_i64, IntKind.wrap_i32, wrap_u32', wrap_u64', InI]; (repeat' refine And.intro ?_ ?_) <;> omega) | ((repeat' refine And.intro ?_ ?_) <;> first | omega | rfl | exact Nat.le_refl _ | exact Nat.le_of_ble_eq_true rfl | exact bytesF_one _) | (simp_all; done) | (simp_all; omega))) ?_
      | refine r_obj rfl rfl (by (first | omega | exact Nat.le_of_ble_eq_true rfl | (simp only [wrap_u8, IntKind.wrap_i64, IntKind.wrap_i32, wrap_u32', wrap_u64', InI]; (repeat' refine And.intro ?_ ?_) <;> omega) | ((repeat' refine And.intro ?_ ?_) <;> first | omega | rfl | exact Nat.le_refl _ | exact Nat.le_of_ble_eq_true rfl | exact bytesF_one _) | (simp_all; done) | (simp_all; omega))) ?_ | refine r_sto rfl (by (first | omega | exact Nat.le_of_ble_eq_true rfl | (simp only [wrap_u8, IntKind.wrap_i64, IntKind.wrap_i32, wrap_u32', wrap_u64', InI]; (repeat' refine And.intro ?_ ?_) <;> omega) | ((repeat' refine And.intro ?_ ?_) <;> first | omega | rfl | exact Nat.le_refl _ | exact Nat.le_of_ble_eq_true rfl | exact bytesF_one _) | (simp_all; done) | (simp_all; omega))) ?_ | refine r_gobj rfl rfl rfl rfl (by (first | omega | exact Nat.le_of_ble_eq_true rfl | (simp only [wrap_u8, IntKind.wrap_i64, IntKind.wrap_i32, wrap_u32', wrap_u64', InI]; (repeat' refine And.intro ?_ ?_) <;> omega) | ((repeat' refine And.intro ?_ ?_) <;> first | omega | rfl | exact Nat.le_refl _ | exact Nat.le_of_ble_eq_true rfl | exact bytesF_one _) | (simp_all; done) | (simp_all; omega))) ?_
      | refine e_hit rfl ?_ | refine e_miss rfl ?_
      | refine ⟨by kernel_rfl, ?_⟩ | refine x_endM rfl rfl ?_ | refine n_endM rfl rfl ?_ | refine r_lend2 (f := 86) 20 200 rfl rfl Tryd.call86 rfl rfl rfl rfl rfl rfl rfl rfl rfl hn ?_ | ((with_reducible refine c_grd ?_); (fail_if_success (refine c_lit true rfl rfl rfl ?_)); (fail_if_success (refine c_lit false rfl rfl rfl ?_)); refine c_split rfl rfl (fun _ => ?_) (fun _ => ?_)))
    rw [← hR, codeP_bad hx he]
    exact ⟨⟨rfl, rfl, trivial⟩⟩

end Go.Proofs.YtenkmfahcmahkaaDoor.Flow
