import Derived.Test.YtenkmfahcmahkaaF8
/- FLOAT: the program: the nearest number's bits. -/
namespace Go.Proofs.Ytenkmfahcmahkaa.Flow
open Go

def bitsV (neg : Bool) (s : List UInt8) (e : Int) : Nat := roB (numV s e) (denV e) + (if neg = true ∧ ¬ s = [] then 9223372036854775808 else 0)

theorem ten_pos (k : Nat) : 0 < 10 ^ k := Nat.pow_pos (by omega)
theorem denV_pos (e : Int) : 0 < denV e := ten_pos _

theorem bits_bad (neg : Bool) (s : List UInt8) (e : Int) (hs : s.length ≤ 1099511627776) (h : ¬ RightP neg s e) : Ctr Try.prog 7 [dcD neg s e] (.tu [.i .u64 0, .i .i64 1]) := by
  have c1 := right_ctr neg s e hs
  rw [rightB_not h] at c1
  refine r_fun Try.func7 rfl Try.ntmps7 Try.results7 rfl rfl fun X hL hX => ?_
  repeat' (first
    | with_reducible refine t_seq ?_ | with_reducible refine t_region ?_ | with_reducible refine c_nil ?_ | with_reducible refine n_then ?_
    | with_reducible refine t_ret ?_ | with_reducible refine t_skip ?_ | with_reducible refine t_exit ?_ | with_reducible refine t_block ?_
    | with_reducible refine n_block ?_ | with_reducible refine e_then ?_ | with_reducible refine x_then ?_ | with_reducible refine x_block ?_ | with_reducible refine t_draw ?_
    | refine r_val rfl rfl True.intro ?_ | refine r_gskip rfl rfl rfl ?_ | refine r_gskip2 rfl rfl rfl ?_ | refine r_gval rfl rfl rfl rfl True.intro ?_
    | refine t_true rfl ?_ | refine t_false rfl ?_
    | ((first | refine t_cond_d rfl (fun _ => ?_) (fun _ => ?_) | refine t_cond_i rfl (fun _ => ?_) (fun _ => ?_) | refine t_cond_j rfl (fun _ => ?_) (fun _ => ?_) | refine t_cond_s rfl (fun _ => ?_) (fun _ => ?_) | refine t_cond_n rfl (fun _ => ?_) (fun _ => ?_) | refine t_cond rfl (fun _ => ?_) (fun _ => ?_) | refine c_split_d rfl rfl (fun _ => ?_) (fun _ => ?_) | refine c_split_i rfl rfl (fun _ => ?_) (fun _ => ?_) | refine c_split_j rfl rfl (fun _ => ?_) (fun _ => ?_) | refine c_split_s rfl rfl (fun _ => ?_) (fun _ => ?_) | refine c_split_n rfl rfl (fun _ => ?_) (fun _ => ?_)) <;> try (first | contradiction | (exfalso; omega)))
    | refine r_val rfl rfl (by (first | omega | exact Nat.le_of_ble_eq_true rfl | (simp only [wrap_u8, IntKind.wrap_i64, IntKind.wrap_i32, wrap_u32', wrap_u64', InI]; (repeat' refine And.intro ?_ ?_) <;> omega) | ((repeat' refine And.intro ?_ ?_) <;> first | omega | rfl | exact Nat.le_refl _ | exact Nat.le_of_ble_eq_true rfl | exact bytesF_one _) | (simp_all; done) | (simp_all; omega))) ?_ | refine r_gval rfl rfl rfl rfl (by (first | omega | exact Nat.le_of_ble_eq_true rfl | (simp only [wrap_u8, IntKind.wrap_i64, IntKind.wrap_i32, wrap_u32', wrap_u64', InI]; (repeat' refine And.intro ?_ ?_) <;> omega) | ((repeat' refine And.intro ?_ ?_) <;> first | omega | rfl | exact Nat.le_refl _ | exact Nat.le_of_ble_eq_true rfl | exact bytesF_one _) | (simp_all; done) | (simp_all; omega))) ?_
    | refine r_obj rfl rfl (by (first | omega | exact Nat.le_of_ble_eq_true rfl | (simp only [wrap_u8, IntKind.wrap_i64, IntKind.wrap_i32, wrap_u32', wrap_u64', InI]; (repeat' refine And.intro ?_ ?_) <;> omega) | ((repeat' refine And.intro ?_ ?_) <;> first | omega | rfl | exact Nat.le_refl _ | exact Nat.le_of_ble_eq_true rfl | exact bytesF_one _) | (simp_all; done) | (simp_all; omega))) ?_ | refine r_sto rfl (by (first | omega | exact Nat.le_of_ble_eq_true rfl | (simp only [wrap_u8, IntKind.wrap_i64, IntKind.wrap_i32, wrap_u32', wrap_u64', InI]; (repeat' refine And.intro ?_ ?_) <;> omega) | ((repeat' refine And.intro ?_ ?_) <;> first | omega | rfl | exact Nat.le_refl _ | exact Nat.le_of_ble_eq_true rfl | exact bytesF_one _) | (simp_all; done) | (simp_all; omega))) ?_ | refine r_gobj rfl rfl rfl rfl (by (first | omega | exact Nat.le_of_ble_eq_true rfl | (simp only [wrap_u8, IntKind.wrap_i64, IntKind.wrap_i32, wrap_u32', wrap_u64', InI]; (repeat' refine And.intro ?_ ?_) <;> omega) | ((repeat' refine And.intro ?_ ?_) <;> first | omega | rfl | exact Nat.le_refl _ | exact Nat.le_of_ble_eq_true rfl | exact bytesF_one _) | (simp_all; done) | (simp_all; omega))) ?_
    | refine e_hit rfl ?_ | refine e_miss rfl ?_
    | refine ⟨by kernel_rfl, ?_⟩ | refine x_end rfl ?_ | refine r_call (f := 18) rfl rfl Try.call18 rfl c1 ?_ | ((with_reducible refine c_grd ?_); (fail_if_success (refine c_lit true rfl rfl rfl ?_)); (fail_if_success (refine c_lit false rfl rfl rfl ?_)); refine c_split rfl rfl (fun _ => ?_) (fun _ => ?_)))
  rfl

theorem bits_over (neg : Bool) (s : List UInt8) (e : Int) (h : RightP neg s e) (ho : overB (numV s e) (denV e)) : Ctr Try.prog 7 [dcD neg s e] (.tu [.i .u64 0, .i .i64 8]) := by
  obtain ⟨b1, b2, b3, b4⟩ := h.bounds
  have c1 := right_ctr neg s e (by omega)
  rw [rightB_iff.2 h] at c1
  have c2 := ratio_ctr neg s e h
  obtain ⟨n1, n2, n3, n4⟩ := ratN_ok (B := 4294967296) (by omega) s e
  obtain ⟨d1, d2, d3, d4⟩ := ratD_ok (B := 4294967296) (by omega) e
  have c3 := against_ctr (ratN 4294967296 s e) (ratD 4294967296 e) 18014398509481983 970 n2 d2 n3 (by omega) (by omega) (by omega) (by omega) (by omega)
  rw [n1, d1] at c3
  unfold overB at ho
  generalize cmpQ (numV s e) (denV e) 18014398509481983 970 = q at c3 ho
  refine r_fun Try.func7 rfl Try.ntmps7 Try.results7 rfl rfl fun X hL hX => ?_
  repeat' (first
    | with_reducible refine t_seq ?_ | with_reducible refine t_region ?_ | with_reducible refine c_nil ?_ | with_reducible refine n_then ?_
    | with_reducible refine t_ret ?_ | with_reducible refine t_skip ?_ | with_reducible refine t_exit ?_ | with_reducible refine t_block ?_
    | with_reducible refine n_block ?_ | with_reducible refine e_then ?_ | with_reducible refine x_then ?_ | with_reducible refine x_block ?_ | with_reducible refine t_draw ?_
    | refine r_val rfl rfl True.intro ?_ | refine r_gskip rfl rfl rfl ?_ | refine r_gskip2 rfl rfl rfl ?_ | refine r_gval rfl rfl rfl rfl True.intro ?_
    | refine t_true rfl ?_ | refine t_false rfl ?_
    | ((first | refine t_cond_d rfl (fun _ => ?_) (fun _ => ?_) | refine t_cond_i rfl (fun _ => ?_) (fun _ => ?_) | refine t_cond_j rfl (fun _ => ?_) (fun _ => ?_) | refine t_cond_s rfl (fun _ => ?_) (fun _ => ?_) | refine t_cond_n rfl (fun _ => ?_) (fun _ => ?_) | refine t_cond rfl (fun _ => ?_) (fun _ => ?_) | refine c_split_d rfl rfl (fun _ => ?_) (fun _ => ?_) | refine c_split_i rfl rfl (fun _ => ?_) (fun _ => ?_) | refine c_split_j rfl rfl (fun _ => ?_) (fun _ => ?_) | refine c_split_s rfl rfl (fun _ => ?_) (fun _ => ?_) | refine c_split_n rfl rfl (fun _ => ?_) (fun _ => ?_)) <;> try (first | contradiction | (exfalso; omega)))
    | refine r_val rfl rfl (by (first | omega | exact Nat.le_of_ble_eq_true rfl | (simp only [wrap_u8, IntKind.wrap_i64, IntKind.wrap_i32, wrap_u32', wrap_u64', InI]; (repeat' refine And.intro ?_ ?_) <;> omega) | ((repeat' refine And.intro ?_ ?_) <;> first | omega | rfl | exact Nat.le_refl _ | exact Nat.le_of_ble_eq_true rfl | exact bytesF_one _) | (simp_all; done) | (simp_all; omega))) ?_ | refine r_gval rfl rfl rfl rfl (by (first | omega | exact Nat.le_of_ble_eq_true rfl | (simp only [wrap_u8, IntKind.wrap_i64, IntKind.wrap_i32, wrap_u32', wrap_u64', InI]; (repeat' refine And.intro ?_ ?_) <;> omega) | ((repeat' refine And.intro ?_ ?_) <;> first | omega | rfl | exact Nat.le_refl _ | exact Nat.le_of_ble_eq_true rfl | exact bytesF_one _) | (simp_all; done) | (simp_all; omega))) ?_
    | refine r_obj rfl rfl (by (first | omega | exact Nat.le_of_ble_eq_true rfl | (simp only [wrap_u8, IntKind.wrap_i64, IntKind.wrap_i32, wrap_u32', wrap_u64', InI]; (repeat' refine And.intro ?_ ?_) <;> omega) | ((repeat' refine And.intro ?_ ?_) <;> first | omega | rfl | exact Nat.le_refl _ | exact Nat.le_of_ble_eq_true rfl | exact bytesF_one _) | (simp_all; done) | (simp_all; omega))) ?_ | refine r_sto rfl (by (first | omega | exact Nat.le_of_ble_eq_true rfl | (simp only [wrap_u8, IntKind.wrap_i64, IntKind.wrap_i32, wrap_u32', wrap_u64', InI]; (repeat' refine And.intro ?_ ?_) <;> omega) | ((repeat' refine And.intro ?_ ?_) <;> first | omega | rfl | exact Nat.le_refl _ | exact Nat.le_of_ble_eq_true rfl | exact bytesF_one _) | (simp_all; done) | (simp_all; omega))) ?_ | refine r_gobj rfl rfl rfl rfl (by (first | omega | exact Nat.le_of_ble_eq_true rfl | (simp only [wrap_u8, IntKind.wrap_i64, IntKind.wrap_i32, wrap_u32', wrap_u64', InI]; (repeat' refine And.intro ?_ ?_) <;> omega) | ((repeat' refine And.intro ?_ ?_) <;> first | omega | rfl | exact Nat.le_refl _ | exact Nat.le_of_ble_eq_true rfl | exact bytesF_one _) | (simp_all; done) | (simp_all; omega))) ?_
    | refine e_hit rfl ?_ | refine e_miss rfl ?_
    | refine ⟨by kernel_rfl, ?_⟩ | refine x_end rfl ?_ | refine r_call (f := 18) rfl rfl Try.call18 rfl c1 ?_ | refine r_call (f := 19) rfl rfl Try.call19 rfl c2 ?_ | refine r_call (f := 20) rfl rfl Try.call20 rfl c3 ?_ | ((with_reducible refine c_grd ?_); (fail_if_success (refine c_lit true rfl rfl rfl ?_)); (fail_if_success (refine c_lit false rfl rfl rfl ?_)); refine c_split rfl rfl (fun _ => ?_) (fun _ => ?_)))
  rfl

set_option maxHeartbeats 1000000 in
theorem bits_ok (neg : Bool) (s : List UInt8) (e : Int) (h : RightP neg s e) (ho : ¬ overB (numV s e) (denV e)) : Ctr Try.prog 7 [dcD neg s e] (.tu [.i .u64 (bitsV neg s e), .i .i64 0]) := by
  obtain ⟨b1, b2, b3, b4⟩ := h.bounds
  have c1 := right_ctr neg s e (by omega)
  rw [rightB_iff.2 h] at c1
  have c2 := ratio_ctr neg s e h
  obtain ⟨n1, n2, n3, n4⟩ := ratN_ok (B := 4294967296) (by omega) s e
  obtain ⟨d1, d2, d3, d4⟩ := ratD_ok (B := 4294967296) (by omega) e
  have c3 := against_ctr (ratN 4294967296 s e) (ratD 4294967296 e) 18014398509481983 970 n2 d2 n3 (by omega) (by omega) (by omega) (by omega) (by omega)
  have c4 := floor_ctr (ratN 4294967296 s e) (ratD 4294967296 e) n2 d2 n3 (by omega) (by omega)
  rw [n1, d1] at c3 c4
  obtain ⟨f1, f2, f3, f4⟩ := flB_ok (numV s e) (denV e)
  have hfin := ro_fin ho
  unfold overB at ho
  have hro : roB (numV s e) (denV e) = if upB (numV s e) (denV e) (flB (numV s e) (denV e)) = true then flB (numV s e) (denV e) + 1 else flB (numV s e) (denV e) := rfl
  have hup : upB (numV s e) (denV e) (flB (numV s e) (denV e)) = (decide (0 < cmpQ (numV s e) (denV e) (2 * mB (flB (numV s e) (denV e)) + 1) (eB (flB (numV s e) (denV e)) - 1)) || (decide (cmpQ (numV s e) (denV e) (2 * mB (flB (numV s e) (denV e)) + 1) (eB (flB (numV s e) (denV e)) - 1) = 0) && decide (mB (flB (numV s e) (denV e)) % 2 = 1))) := rfl
  unfold bitsV
  generalize hN : numV s e = N at *
  generalize hD : denV e = D' at *
  generalize flB N D' = b at *
  generalize roB N D' = r at *
  have c5 := parts_ctr b (by omega)
  rw [partsD_some (by omega) f1] at c5
  have hm := mB_lt b
  have he1 := e_ge b
  have he2 := eB_lt b (by omega)
  have e2m : ∀ _ : Unit, IntKind.u64.wrap (IntKind.u64.wrap (2 * (mB b : Int)) + 1) = ((2 * mB b + 1 : Nat) : Int) := fun _ => by
    rw [wrap_u64', wrap_u64']
    omega
  have c6 := against_ctr (ratN 4294967296 s e) (ratD 4294967296 e) (2 * mB b + 1) (eB b - 1) n2 d2 n3 (by omega) (by omega) (by omega) (by omega) (by omega)
  rw [n1, d1] at c6
  generalize cmpQ N D' 18014398509481983 970 = q at c3 ho
  generalize cmpQ N D' (2 * mB b + 1) (eB b - 1) = hq at c6 hup
  have hb63 : b < 9223372036854775808 := by omega
  clear f2 f3 hD hN n1 d1 f4
  have hr63 : r < 9223372036854775808 := by unfold xB at hfin; omega
  have hsgn : ∀ x : Nat, x < 9223372036854775808 → bits .or .u64 (x : Int) 9223372036854775808 = ((x + 9223372036854775808 : Nat) : Int) := fun x hx => by
    rw [bits_or_comm, bits_join .u64 64 (by decide) wraps_u64 63 _ _ (by omega) (by decide) (by decide) (by omega) (by omega) (by omega)]
    omega
  have hinc : ∀ x : Nat, x < 9223372036854775808 → IntKind.u64.wrap ((x : Int) + 1) = ((x + 1 : Nat) : Int) := fun x hx => by
    rw [wrap_u64']
    omega
  clear hfin f1
  generalize upB N D' b = u at hro hup
  generalize mB b = mm at *
  generalize eB b = ee at *
  have R1 : u = true → r = b + 1 := fun h => by rw [hro, if_pos h]
  have R0 : u = false → r = b := fun h => by rw [hro, if_neg (by rw [h]; decide)]
  have hn : ({ data := #[] } : ByteArray).data.toList = [] := rfl
  have S1 : ∀ x : Nat, r = x → neg = true → (s == ({ data := #[] } : ByteArray).data.toList) = false → D.tu [.i .u64 (bits .or .u64 (x : Int) 9223372036854775808), .i .i64 0] = D.tu [.i .u64 ((r + if neg = true ∧ ¬ s = [] then 9223372036854775808 else 0 : Nat) : Int), .i .i64 0] := by
    intro x hx h1 h2
    subst hx
    rw [hsgn r hr63, if_pos ⟨h1, by rw [hn] at h2; simpa using h2⟩]
  have S2 : ∀ x : Nat, r = x → (neg = true → (s == ({ data := #[] } : ByteArray).data.toList) = true) → D.tu [.i .u64 (x : Int), .i .i64 0] = D.tu [.i .u64 ((r + if neg = true ∧ ¬ s = [] then 9223372036854775808 else 0 : Nat) : Int), .i .i64 0] := by
    intro x hx h1
    subst hx
    rw [if_neg, Nat.add_zero]
    rintro ⟨h2, h3⟩
    have := h1 h2
    rw [hn] at this
    exact h3 (by simpa using this)
  refine r_fun Try.func7 rfl Try.ntmps7 Try.results7 rfl rfl fun X hL hX => ?_
  repeat' (first
    | with_reducible refine t_seq ?_ | with_reducible refine t_region ?_ | with_reducible refine c_nil ?_ | with_reducible refine n_then ?_
    | with_reducible refine t_ret ?_ | with_reducible refine t_skip ?_ | with_reducible refine t_exit ?_ | with_reducible refine t_block ?_
    | with_reducible refine n_block ?_ | with_reducible refine e_then ?_ | with_reducible refine x_then ?_ | with_reducible refine x_block ?_ | with_reducible refine t_draw ?_
    | refine r_val rfl rfl True.intro ?_ | refine r_gskip rfl rfl rfl ?_ | refine r_gskip2 rfl rfl rfl ?_ | refine r_gval rfl rfl rfl rfl True.intro ?_
    | refine t_true rfl ?_ | refine t_false rfl ?_
    | ((first | refine t_cond_d rfl (fun _ => ?_) (fun _ => ?_) | refine t_cond_i rfl (fun _ => ?_) (fun _ => ?_) | refine t_cond_j rfl (fun _ => ?_) (fun _ => ?_) | refine t_cond_s rfl (fun _ => ?_) (fun _ => ?_) | refine t_cond_n rfl (fun _ => ?_) (fun _ => ?_) | refine t_cond rfl (fun _ => ?_) (fun _ => ?_) | refine c_split_d rfl rfl (fun _ => ?_) (fun _ => ?_) | refine c_split_i rfl rfl (fun _ => ?_) (fun _ => ?_) | refine c_split_j rfl rfl (fun _ => ?_) (fun _ => ?_) | refine c_split_s rfl rfl (fun _ => ?_) (fun _ => ?_) | refine c_split_n rfl rfl (fun _ => ?_) (fun _ => ?_)) <;> try (first | (exact Bool.noConfusion ‹true = false›) | (exact Bool.noConfusion ‹false = true›) | (exfalso; omega)))
    | refine r_val rfl rfl (by (first | omega | exact Nat.le_of_ble_eq_true rfl | (simp only [wrap_u8, IntKind.wrap_i64, IntKind.wrap_i32, wrap_u32', wrap_u64', InI]; (repeat' refine And.intro ?_ ?_) <;> omega) | ((repeat' refine And.intro ?_ ?_) <;> first | omega | rfl | exact Nat.le_refl _ | exact Nat.le_of_ble_eq_true rfl | exact bytesF_one _) | (simp_all; done) | (simp_all; omega))) ?_ | refine r_gval rfl rfl rfl rfl (by (first | omega | exact Nat.le_of_ble_eq_true rfl | (simp only [wrap_u8, IntKind.wrap_i64, IntKind.wrap_i32, wrap_u32', wrap_u64', InI]; (repeat' refine And.intro ?_ ?_) <;> omega) | ((repeat' refine And.intro ?_ ?_) <;> first | omega | rfl | exact Nat.le_refl _ | exact Nat.le_of_ble_eq_true rfl | exact bytesF_one _) | (simp_all; done) | (simp_all; omega))) ?_
    | refine r_obj rfl rfl (by (first | omega | exact Nat.le_of_ble_eq_true rfl | (simp only [wrap_u8, IntKind.wrap_i64, IntKind.wrap_i32, wrap_u32', wrap_u64', InI]; (repeat' refine And.intro ?_ ?_) <;> omega) | ((repeat' refine And.intro ?_ ?_) <;> first | omega | rfl | exact Nat.le_refl _ | exact Nat.le_of_ble_eq_true rfl | exact bytesF_one _) | (simp_all; done) | (simp_all; omega))) ?_ | refine r_sto rfl (by (first | omega | exact Nat.le_of_ble_eq_true rfl | (simp only [wrap_u8, IntKind.wrap_i64, IntKind.wrap_i32, wrap_u32', wrap_u64', InI]; (repeat' refine And.intro ?_ ?_) <;> omega) | ((repeat' refine And.intro ?_ ?_) <;> first | omega | rfl | exact Nat.le_refl _ | exact Nat.le_of_ble_eq_true rfl | exact bytesF_one _) | (simp_all; done) | (simp_all; omega))) ?_ | refine r_gobj rfl rfl rfl rfl (by (first | omega | exact Nat.le_of_ble_eq_true rfl | (simp only [wrap_u8, IntKind.wrap_i64, IntKind.wrap_i32, wrap_u32', wrap_u64', InI]; (repeat' refine And.intro ?_ ?_) <;> omega) | ((repeat' refine And.intro ?_ ?_) <;> first | omega | rfl | exact Nat.le_refl _ | exact Nat.le_of_ble_eq_true rfl | exact bytesF_one _) | (simp_all; done) | (simp_all; omega))) ?_
    | refine e_hit rfl ?_ | refine e_miss rfl ?_
    | refine ⟨by kernel_rfl, ?_⟩ | refine x_end rfl ?_ | refine r_call (f := 18) rfl rfl Try.call18 rfl c1 ?_ | refine r_call (f := 19) rfl rfl Try.call19 rfl c2 ?_ | refine r_call (f := 20) rfl rfl Try.call20 rfl c3 ?_ | refine r_call (f := 21) rfl rfl Try.call21 rfl c4 ?_ | refine r_call (f := 14) rfl rfl Try.call14 rfl c5 ?_ | refine r_call (f := 20) rfl rfl Try.call20 rfl (by rw [e2m ()]; exact c6) ?_ | ((with_reducible refine c_grd ?_); (fail_if_success (refine c_lit true rfl rfl rfl ?_)); (fail_if_success (refine c_lit false rfl rfl rfl ?_)); refine c_split rfl rfl (fun _ => ?_) (fun _ => ?_)))
  · rw [hinc b hb63]; exact S1 _ (R1 (by rw [hup]; simp [*])) ‹_› ‹_›
  · rw [hinc b hb63]; exact S2 _ (R1 (by rw [hup]; simp [*])) (fun _ => ‹_›)
  · rw [hinc b hb63]; exact S2 _ (R1 (by rw [hup]; simp [*])) (fun h => Bool.noConfusion (h.symm.trans ‹neg = false›))
  · have hu : u = true := by rw [hup]; simp [*]; omega
    rw [hinc b hb63]; exact S1 _ (R1 hu) ‹_› ‹_›
  · have hu : u = true := by rw [hup]; simp [*]; omega
    rw [hinc b hb63]; exact S2 _ (R1 hu) (fun _ => ‹_›)
  · have hu : u = true := by rw [hup]; simp [*]; omega
    rw [hinc b hb63]; exact S2 _ (R1 hu) (fun h => Bool.noConfusion (h.symm.trans ‹neg = false›))
  · have hu : u = false := by rw [hup]; simp [*]; omega
    exact S1 _ (R0 hu) ‹_› ‹_›
  · have hu : u = false := by rw [hup]; simp [*]; omega
    exact S2 _ (R0 hu) (fun _ => ‹_›)
  · have hu : u = false := by rw [hup]; simp [*]; omega
    exact S2 _ (R0 hu) (fun h => Bool.noConfusion (h.symm.trans ‹neg = false›))
  · have hu : u = false := by rw [hup]; simp [*]
    exact S1 _ (R0 hu) ‹_› ‹_›
  · have hu : u = false := by rw [hup]; simp [*]
    exact S2 _ (R0 hu) (fun _ => ‹_›)
  · have hu : u = false := by rw [hup]; simp [*]
    exact S2 _ (R0 hu) (fun h => Bool.noConfusion (h.symm.trans ‹neg = false›))

end Go.Proofs.Ytenkmfahcmahkaa.Flow
