/- META: Merge, the program's. -/
import Derived.Test.YtejpliaomhpakaaM8
namespace Go.Proofs.Ytejpliaomhpakaa.Flow
open Go

theorem soFar_succ (a b : List Vec) (i : Nat) (h : i < b.length) : soFar a b (i + 1) = partOf (soFar a b i) (b.getD i ([], [])) (b.getD i ([], [])).2.length := take_succ_foldl addV ([], []) b a i h
theorem soFar_all (a b : List Vec) (i : Nat) (h : b.length ≤ i) : soFar a b i = mergeV a b := by
  unfold soFar mergeV
  rw [List.take_of_length_le h]

set_option maxHeartbeats 16000000 in
theorem merge_ctr (a b : List Vec) (ha : bnd 25 25 a) (hb : bnd 25 25 b) : Ctr Try.prog 18 [.sl 2 a.length (vecF a), .sl 2 b.length (vecF b)] (.sl 2 (mergeV a b).length (vecF (mergeV a b))) := by
  refine r_fun Try.func18 rfl Try.ntmps18 Try.results18 rfl rfl fun X hL hX => ?_
  have hal := ha.1
  have hbl := hb.1
  repeat' (first
    | with_reducible refine t_seq ?_ | with_reducible refine t_region ?_ | with_reducible refine c_nil ?_ | with_reducible refine n_then ?_
    | with_reducible refine t_ret ?_ | with_reducible refine t_skip ?_ | with_reducible refine t_exit ?_ | with_reducible refine t_block ?_
    | with_reducible refine n_block ?_ | with_reducible refine e_then ?_ | with_reducible refine x_then ?_ | with_reducible refine x_block ?_ | with_reducible refine t_draw ?_
    | refine r_val rfl rfl True.intro ?_ | refine r_gskip rfl rfl rfl ?_ | refine r_gskip2 rfl rfl rfl ?_ | refine r_gval rfl rfl rfl rfl True.intro ?_
    | refine t_true rfl ?_ | refine t_false rfl ?_
    | ((first | refine t_cond_d rfl (fun _ => ?_) (fun _ => ?_) | refine t_cond_i rfl (fun _ => ?_) (fun _ => ?_) | refine t_cond_j rfl (fun _ => ?_) (fun _ => ?_) | refine t_cond_s rfl (fun _ => ?_) (fun _ => ?_) | refine t_cond_n rfl (fun _ => ?_) (fun _ => ?_) | refine t_cond rfl (fun _ => ?_) (fun _ => ?_) | refine c_split_d rfl rfl (fun _ => ?_) (fun _ => ?_) | refine c_split_i rfl rfl (fun _ => ?_) (fun _ => ?_) | refine c_split_j rfl rfl (fun _ => ?_) (fun _ => ?_) | refine c_split_s rfl rfl (fun _ => ?_) (fun _ => ?_) | refine c_split_n rfl rfl (fun _ => ?_) (fun _ => ?_)) <;> try (first | contradiction | (exfalso; omega)))
    | refine r_val rfl rfl (by (first | omega | exact Nat.le_of_ble_eq_true rfl | (simp_all; done) | (simp_all; omega) | ((repeat' refine And.intro ?_ ?_) <;> first | omega | rfl | exact Nat.le_refl _ | exact Nat.le_of_ble_eq_true rfl | exact bytesF_one _ | (simp_all; done) | (simp_all; omega)))) ?_ | refine r_gval rfl rfl rfl rfl (by (first | omega | exact Nat.le_of_ble_eq_true rfl | (simp_all; done) | (simp_all; omega) | ((repeat' refine And.intro ?_ ?_) <;> first | omega | rfl | exact Nat.le_refl _ | exact Nat.le_of_ble_eq_true rfl | exact bytesF_one _ | (simp_all; done) | (simp_all; omega)))) ?_
    | refine r_obj rfl rfl (by (first | omega | exact Nat.le_of_ble_eq_true rfl | (simp_all; done) | (simp_all; omega) | ((repeat' refine And.intro ?_ ?_) <;> first | omega | rfl | exact Nat.le_refl _ | exact Nat.le_of_ble_eq_true rfl | exact bytesF_one _ | (simp_all; done) | (simp_all; omega)))) ?_ | refine r_sto rfl (by (first | omega | exact Nat.le_of_ble_eq_true rfl | (simp_all; done) | (simp_all; omega) | ((repeat' refine And.intro ?_ ?_) <;> first | omega | rfl | exact Nat.le_refl _ | exact Nat.le_of_ble_eq_true rfl | exact bytesF_one _ | (simp_all; done) | (simp_all; omega)))) ?_ | refine r_gobj rfl rfl rfl rfl (by (first | omega | exact Nat.le_of_ble_eq_true rfl | (simp_all; done) | (simp_all; omega) | ((repeat' refine And.intro ?_ ?_) <;> first | omega | rfl | exact Nat.le_refl _ | exact Nat.le_of_ble_eq_true rfl | exact bytesF_one _ | (simp_all; done) | (simp_all; omega)))) ?_
    | refine e_hit rfl ?_ | refine e_miss rfl ?_
    | refine ⟨by kernel_rfl, ?_⟩ | ((with_reducible refine c_grd ?_); (fail_if_success (refine c_lit true rfl rfl rfl ?_)); (fail_if_success (refine c_lit false rfl rfl rfl ?_)); refine c_split rfl rfl (fun _ => ?_) (fun _ => ?_)))
  refine T.adoptA 5 100 38 2 (vecF a) rfl rfl ?_
  refine T.loop hL (fun i : Nat => [(1, .sl 2 b.length (vecF b)), (5, .ah 100 2 i), (13, .sl 2 a.length (vecF a)), (14, .i .i64 a.length), (15, .i .i64 i)]) (fun i => [(100, .arr 38 2 i (vecF a))])
    (fun i => i ≤ a.length) (fun i => a.length - i) 0 (by omega)
    ⟨⟨rfl, rfl, rfl, rfl, rfl, trivial⟩, ⟨⟨_, _, rfl, rfl, fun i hi => by omega⟩, trivial⟩, rfl, by rw [hX]; simp⟩ ?_
  intro i h1
  try dsimp only at h1 ⊢
  have hfl := (bnd_at ha i).2.1
  have hcl := (clone_ctr (a.getD i ([], [])).2 (by omega)).shut
  repeat' (first
    | with_reducible refine t_seq ?_ | with_reducible refine t_region ?_ | with_reducible refine c_nil ?_ | with_reducible refine n_then ?_
    | with_reducible refine t_ret ?_ | with_reducible refine t_skip ?_ | with_reducible refine t_exit ?_ | with_reducible refine t_block ?_
    | with_reducible refine n_block ?_ | with_reducible refine e_then ?_ | with_reducible refine x_then ?_ | with_reducible refine x_block ?_ | with_reducible refine t_draw ?_
    | refine r_val rfl rfl True.intro ?_ | refine r_gskip rfl rfl rfl ?_ | refine r_gskip2 rfl rfl rfl ?_ | refine r_gval rfl rfl rfl rfl True.intro ?_
    | refine t_true rfl ?_ | refine t_false rfl ?_
    | ((first | refine t_cond_d rfl (fun _ => ?_) (fun _ => ?_) | refine t_cond_i rfl (fun _ => ?_) (fun _ => ?_) | refine t_cond_j rfl (fun _ => ?_) (fun _ => ?_) | refine t_cond_s rfl (fun _ => ?_) (fun _ => ?_) | refine t_cond_n rfl (fun _ => ?_) (fun _ => ?_) | refine t_cond rfl (fun _ => ?_) (fun _ => ?_) | refine c_split_d rfl rfl (fun _ => ?_) (fun _ => ?_) | refine c_split_i rfl rfl (fun _ => ?_) (fun _ => ?_) | refine c_split_j rfl rfl (fun _ => ?_) (fun _ => ?_) | refine c_split_s rfl rfl (fun _ => ?_) (fun _ => ?_) | refine c_split_n rfl rfl (fun _ => ?_) (fun _ => ?_)) <;> try (first | contradiction | (exfalso; omega)))
    | refine r_val rfl rfl (by (first | omega | exact Nat.le_of_ble_eq_true rfl | ((repeat' refine And.intro ?_ ?_) <;> first | omega | rfl | trivial | exact Nat.le_refl _ | exact Nat.le_of_ble_eq_true rfl) | (simp only [Int.toNat_natCast] at *; (repeat' refine And.intro ?_ ?_) <;> first | omega | rfl | trivial | exact Nat.le_refl _ | exact Nat.le_of_ble_eq_true rfl))) ?_ | refine r_gval rfl rfl rfl rfl (by (first | omega | exact Nat.le_of_ble_eq_true rfl | ((repeat' refine And.intro ?_ ?_) <;> first | omega | rfl | trivial | exact Nat.le_refl _ | exact Nat.le_of_ble_eq_true rfl) | (simp only [Int.toNat_natCast] at *; (repeat' refine And.intro ?_ ?_) <;> first | omega | rfl | trivial | exact Nat.le_refl _ | exact Nat.le_of_ble_eq_true rfl))) ?_
    | refine r_obj rfl rfl (by (first | omega | exact Nat.le_of_ble_eq_true rfl | ((repeat' refine And.intro ?_ ?_) <;> first | omega | rfl | trivial | exact Nat.le_refl _ | exact Nat.le_of_ble_eq_true rfl) | (simp only [Int.toNat_natCast] at *; (repeat' refine And.intro ?_ ?_) <;> first | omega | rfl | trivial | exact Nat.le_refl _ | exact Nat.le_of_ble_eq_true rfl))) ?_ | refine r_sto rfl (by (first | omega | exact Nat.le_of_ble_eq_true rfl | ((repeat' refine And.intro ?_ ?_) <;> first | omega | rfl | trivial | exact Nat.le_refl _ | exact Nat.le_of_ble_eq_true rfl) | (simp only [Int.toNat_natCast] at *; (repeat' refine And.intro ?_ ?_) <;> first | omega | rfl | trivial | exact Nat.le_refl _ | exact Nat.le_of_ble_eq_true rfl))) ?_ | refine r_gobj rfl rfl rfl rfl (by (first | omega | exact Nat.le_of_ble_eq_true rfl | ((repeat' refine And.intro ?_ ?_) <;> first | omega | rfl | trivial | exact Nat.le_refl _ | exact Nat.le_of_ble_eq_true rfl) | (simp only [Int.toNat_natCast] at *; (repeat' refine And.intro ?_ ?_) <;> first | omega | rfl | trivial | exact Nat.le_refl _ | exact Nat.le_of_ble_eq_true rfl))) ?_
    | refine e_hit rfl ?_ | refine e_miss rfl ?_
    | refine ⟨by kernel_rfl, ?_⟩ | refine r_call rfl rfl Try.call54 rfl hcl ?_ | ((with_reducible refine c_grd ?_); (fail_if_success (refine c_lit true rfl rfl rfl ?_)); (fail_if_success (refine c_lit false rfl rfl rfl ?_)); refine c_split rfl rfl (fun _ => ?_) (fun _ => ?_)))
  all_goals try simp only [Int.toNat_natCast] at *
  · exact ⟨i + 1, by omega, by omega, ⟨rfl, rfl, rfl, rfl, rfl, trivial⟩, ⟨⟨_, _, rfl, rfl, fun j hj => .inl (by
      unfold catF
      by_cases e : j < i
      · rw [if_pos e]
      · obtain rfl : j = i := by omega
        rw [if_neg e, if_pos hj, Nat.sub_self]
        rfl)⟩, trivial⟩, rfl, by rw [hX]; simp⟩
  · clear hcl hfl
    obtain rfl : i = a.length := by omega
    refine T.loop hL (fun i : Nat => [(5, .ah 100 2 (soFar a b i).length), (29, .sl 2 b.length (vecF b)), (30, .i .i64 b.length), (31, .i .i64 i)]) (fun i => [(100, .arr 38 2 (soFar a b i).length (vecF (soFar a b i)))])
      (fun i => i ≤ b.length) (fun i => b.length - i) 0 (by omega)
      ⟨⟨rfl, rfl, rfl, rfl, trivial⟩, ⟨⟨_, _, rfl, rfl, fun i hi => .inl rfl⟩, trivial⟩, rfl, by rw [hX]; simp⟩ ?_
    intro i h1
    try dsimp only at h1 ⊢
    have hob := soFar_bnd ha hb i h1
    have hsucc := soFar_succ a b i
    have hall := soFar_all a b i
    generalize soFar a b i = out at hob hsucc hall
    have hol := hob.1
    obtain ⟨v1, v2, v3⟩ := bnd_at hb i
    have hpb := fun m => partOf_bnd (G := 25) m hob v1 v2 v3
    have hfind := find_ctr out (b.getD i ([], [])).1 (by omega)
    have hlt := idxI_lt (b.getD i ([], [])).1 (out.map (·.1))
    rw [List.length_map] at hlt
    have hneg : idxI (b.getD i ([], [])).1 (out.map (·.1)) < 0 → outOf out (b.getD i ([], [])) = out ++ [((b.getD i ([], [])).1, [])] ∧ atOf out (b.getD i ([], [])) = out.length := fun h => ⟨if_pos h, if_pos h⟩
    have hpos : ¬ idxI (b.getD i ([], [])).1 (out.map (·.1)) < 0 → outOf out (b.getD i ([], [])) = out ∧ atOf out (b.getD i ([], [])) = (idxI (b.getD i ([], [])).1 (out.map (·.1))).toNat := fun h => ⟨if_neg h, if_neg h⟩
    have hatl := at_lt out (b.getD i ([], []))
    have hp0 := partOf_zero out (b.getD i ([], []))
    have hoo := (outOf_bnd hob v1).1
    generalize idxI (b.getD i ([], [])).1 (out.map (·.1)) = ix at hfind hlt hneg hpos
    repeat' (first
      | with_reducible refine t_seq ?_ | with_reducible refine t_region ?_ | with_reducible refine c_nil ?_ | with_reducible refine n_then ?_
      | with_reducible refine t_ret ?_ | with_reducible refine t_skip ?_ | with_reducible refine t_exit ?_ | with_reducible refine t_block ?_
      | with_reducible refine n_block ?_ | with_reducible refine e_then ?_ | with_reducible refine x_then ?_ | with_reducible refine x_block ?_ | with_reducible refine t_draw ?_
      | refine r_val rfl rfl True.intro ?_ | refine r_gskip rfl rfl rfl ?_ | refine r_gskip2 rfl rfl rfl ?_ | refine r_gval rfl rfl rfl rfl True.intro ?_
      | refine t_true rfl ?_ | refine t_false rfl ?_
      | ((first | refine t_cond_d rfl (fun _ => ?_) (fun _ => ?_) | refine t_cond_i rfl (fun _ => ?_) (fun _ => ?_) | refine t_cond_j rfl (fun _ => ?_) (fun _ => ?_) | refine t_cond_s rfl (fun _ => ?_) (fun _ => ?_) | refine t_cond_n rfl (fun _ => ?_) (fun _ => ?_) | refine t_cond rfl (fun _ => ?_) (fun _ => ?_) | refine c_split_d rfl rfl (fun _ => ?_) (fun _ => ?_) | refine c_split_i rfl rfl (fun _ => ?_) (fun _ => ?_) | refine c_split_j rfl rfl (fun _ => ?_) (fun _ => ?_) | refine c_split_s rfl rfl (fun _ => ?_) (fun _ => ?_) | refine c_split_n rfl rfl (fun _ => ?_) (fun _ => ?_)) <;> try (first | contradiction | (exfalso; omega)))
      | refine r_val rfl rfl (by (first | omega | exact Nat.le_of_ble_eq_true rfl | ((repeat' refine And.intro ?_ ?_) <;> first | omega | rfl | trivial | exact Nat.le_refl _ | exact Nat.le_of_ble_eq_true rfl) | (simp only [Int.toNat_natCast] at *; (repeat' refine And.intro ?_ ?_) <;> first | omega | rfl | trivial | exact Nat.le_refl _ | exact Nat.le_of_ble_eq_true rfl))) ?_ | refine r_gval rfl rfl rfl rfl (by (first | omega | exact Nat.le_of_ble_eq_true rfl | ((repeat' refine And.intro ?_ ?_) <;> first | omega | rfl | trivial | exact Nat.le_refl _ | exact Nat.le_of_ble_eq_true rfl) | (simp only [Int.toNat_natCast] at *; (repeat' refine And.intro ?_ ?_) <;> first | omega | rfl | trivial | exact Nat.le_refl _ | exact Nat.le_of_ble_eq_true rfl))) ?_
      | refine r_obj rfl rfl (by (first | omega | exact Nat.le_of_ble_eq_true rfl | ((repeat' refine And.intro ?_ ?_) <;> first | omega | rfl | trivial | exact Nat.le_refl _ | exact Nat.le_of_ble_eq_true rfl) | (simp only [Int.toNat_natCast] at *; (repeat' refine And.intro ?_ ?_) <;> first | omega | rfl | trivial | exact Nat.le_refl _ | exact Nat.le_of_ble_eq_true rfl))) ?_ | refine r_sto rfl (by (first | omega | exact Nat.le_of_ble_eq_true rfl | ((repeat' refine And.intro ?_ ?_) <;> first | omega | rfl | trivial | exact Nat.le_refl _ | exact Nat.le_of_ble_eq_true rfl) | (simp only [Int.toNat_natCast] at *; (repeat' refine And.intro ?_ ?_) <;> first | omega | rfl | trivial | exact Nat.le_refl _ | exact Nat.le_of_ble_eq_true rfl))) ?_ | refine r_gobj rfl rfl rfl rfl (by (first | omega | exact Nat.le_of_ble_eq_true rfl | ((repeat' refine And.intro ?_ ?_) <;> first | omega | rfl | trivial | exact Nat.le_refl _ | exact Nat.le_of_ble_eq_true rfl) | (simp only [Int.toNat_natCast] at *; (repeat' refine And.intro ?_ ?_) <;> first | omega | rfl | trivial | exact Nat.le_refl _ | exact Nat.le_of_ble_eq_true rfl))) ?_
      | refine e_hit rfl ?_ | refine e_miss rfl ?_
      | refine ⟨by kernel_rfl, ?_⟩ | refine x_endF [4] 100 rfl ⟨rfl, trivial⟩ rfl ?_ | refine n_endF [4] 100 rfl ⟨rfl, trivial⟩ rfl ?_ | refine r_callS rfl rfl Try.call50 ⟨⟨rfl, rfl⟩, trivial, trivial⟩ rfl hfind rfl ?_ | ((with_reducible refine c_grd ?_); (fail_if_success (refine c_lit true rfl rfl rfl ?_)); (fail_if_success (refine c_lit false rfl rfl rfl ?_)); refine c_split rfl rfl (fun _ => ?_) (fun _ => ?_)))
    all_goals try simp only [Int.toNat_natCast] at *
    · obtain ⟨e1, e2⟩ := hneg (by assumption)
      refine T.loop hL (fun m : Nat => [(5, .ah 100 2 (outOf out (b.getD i ([], []))).length), (9, .pv 9 0), (10, .i .i64 (atOf out (b.getD i ([], [])))), (29, .sl 2 b.length (vecF b)), (30, .i .i64 b.length), (31, .i .i64 i),
          (50, .sl 2 (b.getD i ([], [])).2.length (fldF (b.getD i ([], [])).2)), (51, .i .i64 (b.getD i ([], [])).2.length), (52, .i .i64 m)])
        (fun m => [(9, .var [.s (b.getD i ([], [])).1, .sl 2 (b.getD i ([], [])).2.length (fldF (b.getD i ([], [])).2)]), (100, .arr 38 2 (outOf out (b.getD i ([], []))).length (vecF (partOf out (b.getD i ([], [])) m)))])
        (fun m => m ≤ (b.getD i ([], [])).2.length) (fun m => (b.getD i ([], [])).2.length - m) 0 (by omega)
        ⟨⟨by rw [e1]; simp; rfl, rfl, by rw [e2]; rfl, rfl, rfl, rfl, rfl, rfl, rfl, trivial⟩, ⟨rfl, ⟨_, _, rfl, by rw [e1]; simp, fun j hj => by rw [hp0, e1]; exact vecF_snoc out _ _ rfl j (by rw [e1] at hj; simpa using hj)⟩, trivial⟩, rfl, by rw [hX]; simp⟩ ?_
      clear e1 e2 hneg hpos hfind hp0 hlt
      intro m g1
      try dsimp only at g1 ⊢
      have hpm := bnd_at (hpb m) (atOf out (b.getD i ([], [])))
      have hfd := field_ctr ((partOf out (b.getD i ([], [])) m).getD (atOf out (b.getD i ([], []))) ([], [])).2 ((b.getD i ([], [])).2.getD m ([], [])).1 ((b.getD i ([], [])).2.getD m ([], [])).2 (by omega)
      repeat' (first
        | with_reducible refine t_seq ?_ | with_reducible refine t_region ?_ | with_reducible refine c_nil ?_ | with_reducible refine n_then ?_
        | with_reducible refine t_ret ?_ | with_reducible refine t_skip ?_ | with_reducible refine t_exit ?_ | with_reducible refine t_block ?_
        | with_reducible refine n_block ?_ | with_reducible refine e_then ?_ | with_reducible refine x_then ?_ | with_reducible refine x_block ?_ | with_reducible refine t_draw ?_
        | refine r_val rfl rfl True.intro ?_ | refine r_gskip rfl rfl rfl ?_ | refine r_gskip2 rfl rfl rfl ?_ | refine r_gval rfl rfl rfl rfl True.intro ?_
        | refine t_true rfl ?_ | refine t_false rfl ?_
        | ((first | refine t_cond_d rfl (fun _ => ?_) (fun _ => ?_) | refine t_cond_i rfl (fun _ => ?_) (fun _ => ?_) | refine t_cond_j rfl (fun _ => ?_) (fun _ => ?_) | refine t_cond_s rfl (fun _ => ?_) (fun _ => ?_) | refine t_cond_n rfl (fun _ => ?_) (fun _ => ?_) | refine t_cond rfl (fun _ => ?_) (fun _ => ?_) | refine c_split_d rfl rfl (fun _ => ?_) (fun _ => ?_) | refine c_split_i rfl rfl (fun _ => ?_) (fun _ => ?_) | refine c_split_j rfl rfl (fun _ => ?_) (fun _ => ?_) | refine c_split_s rfl rfl (fun _ => ?_) (fun _ => ?_) | refine c_split_n rfl rfl (fun _ => ?_) (fun _ => ?_)) <;> try (first | contradiction | (exfalso; omega)))
        | refine r_val rfl rfl (by (first | omega | exact Nat.le_of_ble_eq_true rfl | ((repeat' refine And.intro ?_ ?_) <;> first | omega | rfl | trivial | exact Nat.le_refl _ | exact Nat.le_of_ble_eq_true rfl) | (simp only [Int.toNat_natCast] at *; (repeat' refine And.intro ?_ ?_) <;> first | omega | rfl | trivial | exact Nat.le_refl _ | exact Nat.le_of_ble_eq_true rfl))) ?_ | refine r_gval rfl rfl rfl rfl (by (first | omega | exact Nat.le_of_ble_eq_true rfl | ((repeat' refine And.intro ?_ ?_) <;> first | omega | rfl | trivial | exact Nat.le_refl _ | exact Nat.le_of_ble_eq_true rfl) | (simp only [Int.toNat_natCast] at *; (repeat' refine And.intro ?_ ?_) <;> first | omega | rfl | trivial | exact Nat.le_refl _ | exact Nat.le_of_ble_eq_true rfl))) ?_
        | refine r_obj rfl rfl (by (first | omega | exact Nat.le_of_ble_eq_true rfl | ((repeat' refine And.intro ?_ ?_) <;> first | omega | rfl | trivial | exact Nat.le_refl _ | exact Nat.le_of_ble_eq_true rfl) | (simp only [Int.toNat_natCast] at *; (repeat' refine And.intro ?_ ?_) <;> first | omega | rfl | trivial | exact Nat.le_refl _ | exact Nat.le_of_ble_eq_true rfl))) ?_ | refine r_sto rfl (by (first | omega | exact Nat.le_of_ble_eq_true rfl | ((repeat' refine And.intro ?_ ?_) <;> first | omega | rfl | trivial | exact Nat.le_refl _ | exact Nat.le_of_ble_eq_true rfl) | (simp only [Int.toNat_natCast] at *; (repeat' refine And.intro ?_ ?_) <;> first | omega | rfl | trivial | exact Nat.le_refl _ | exact Nat.le_of_ble_eq_true rfl))) ?_ | refine r_gobj rfl rfl rfl rfl (by (first | omega | exact Nat.le_of_ble_eq_true rfl | ((repeat' refine And.intro ?_ ?_) <;> first | omega | rfl | trivial | exact Nat.le_refl _ | exact Nat.le_of_ble_eq_true rfl) | (simp only [Int.toNat_natCast] at *; (repeat' refine And.intro ?_ ?_) <;> first | omega | rfl | trivial | exact Nat.le_refl _ | exact Nat.le_of_ble_eq_true rfl))) ?_
        | refine e_hit rfl ?_ | refine e_miss rfl ?_
        | refine ⟨by kernel_rfl, ?_⟩ | refine r_call rfl rfl Try.call21 rfl hfd ?_ | ((with_reducible refine c_grd ?_); (fail_if_success (refine c_lit true rfl rfl rfl ?_)); (fail_if_success (refine c_lit false rfl rfl rfl ?_)); refine c_split rfl rfl (fun _ => ?_) (fun _ => ?_)))
      all_goals try simp only [Int.toNat_natCast] at *
      · exact ⟨m + 1, by omega, by omega, ⟨rfl, rfl, rfl, rfl, rfl, rfl, rfl, rfl, rfl, trivial⟩, ⟨rfl, ⟨_, _, rfl, rfl, fun j hj => .inl (by
          rw [partOf_succ out (b.getD i ([], [])) m (by omega)]
          exact vecF_set (partOf out (b.getD i ([], [])) m) (atOf out (b.getD i ([], []))) (((partOf out (b.getD i ([], [])) m).getD (atOf out (b.getD i ([], []))) ([], [])).1, fieldV ((partOf out (b.getD i ([], [])) m).getD (atOf out (b.getD i ([], []))) ([], [])).2 ((b.getD i ([], [])).2.getD m ([], [])).1 ((b.getD i ([], [])).2.getD m ([], [])).2) (by rw [partOf_len]; exact hatl) j)⟩, trivial⟩, rfl, by rw [hX]; simp⟩
      · have hm : m = (b.getD i ([], [])).2.length := by omega
        have hs := hsucc (by omega)
        rw [← hm] at hs
        exact ⟨i + 1, by omega, by omega, ⟨by rw [hs, partOf_len]; rfl, rfl, rfl, rfl, trivial⟩, ⟨⟨_, _, rfl, by rw [hs, partOf_len], fun j hj => .inl (by rw [hs])⟩, trivial⟩, rfl, by rw [hX]; simp⟩
    · obtain ⟨e1, e2⟩ := hpos (by assumption)
      refine T.loop hL (fun m : Nat => [(5, .ah 100 2 (outOf out (b.getD i ([], []))).length), (9, .pv 9 0), (10, .i .i64 (atOf out (b.getD i ([], [])))), (29, .sl 2 b.length (vecF b)), (30, .i .i64 b.length), (31, .i .i64 i),
          (50, .sl 2 (b.getD i ([], [])).2.length (fldF (b.getD i ([], [])).2)), (51, .i .i64 (b.getD i ([], [])).2.length), (52, .i .i64 m)])
        (fun m => [(9, .var [.s (b.getD i ([], [])).1, .sl 2 (b.getD i ([], [])).2.length (fldF (b.getD i ([], [])).2)]), (100, .arr 38 2 (outOf out (b.getD i ([], []))).length (vecF (partOf out (b.getD i ([], [])) m)))])
        (fun m => m ≤ (b.getD i ([], [])).2.length) (fun m => (b.getD i ([], [])).2.length - m) 0 (by omega)
        ⟨⟨by rw [e1]; rfl, rfl, by rw [e2]; show D.i .i64 ix = D.i .i64 ((ix.toNat : Nat) : Int); congr 1; omega, rfl, rfl, rfl, rfl, rfl, rfl, trivial⟩, ⟨rfl, ⟨_, _, rfl, by rw [e1], fun j hj => .inl (by rw [hp0, e1])⟩, trivial⟩, rfl, by rw [hX]; simp⟩ ?_
      clear e1 e2 hneg hpos hfind hp0 hlt
      intro m g1
      try dsimp only at g1 ⊢
      have hpm := bnd_at (hpb m) (atOf out (b.getD i ([], [])))
      have hfd := field_ctr ((partOf out (b.getD i ([], [])) m).getD (atOf out (b.getD i ([], []))) ([], [])).2 ((b.getD i ([], [])).2.getD m ([], [])).1 ((b.getD i ([], [])).2.getD m ([], [])).2 (by omega)
      repeat' (first
        | with_reducible refine t_seq ?_ | with_reducible refine t_region ?_ | with_reducible refine c_nil ?_ | with_reducible refine n_then ?_
        | with_reducible refine t_ret ?_ | with_reducible refine t_skip ?_ | with_reducible refine t_exit ?_ | with_reducible refine t_block ?_
        | with_reducible refine n_block ?_ | with_reducible refine e_then ?_ | with_reducible refine x_then ?_ | with_reducible refine x_block ?_ | with_reducible refine t_draw ?_
        | refine r_val rfl rfl True.intro ?_ | refine r_gskip rfl rfl rfl ?_ | refine r_gskip2 rfl rfl rfl ?_ | refine r_gval rfl rfl rfl rfl True.intro ?_
        | refine t_true rfl ?_ | refine t_false rfl ?_
        | ((first | refine t_cond_d rfl (fun _ => ?_) (fun _ => ?_) | refine t_cond_i rfl (fun _ => ?_) (fun _ => ?_) | refine t_cond_j rfl (fun _ => ?_) (fun _ => ?_) | refine t_cond_s rfl (fun _ => ?_) (fun _ => ?_) | refine t_cond_n rfl (fun _ => ?_) (fun _ => ?_) | refine t_cond rfl (fun _ => ?_) (fun _ => ?_) | refine c_split_d rfl rfl (fun _ => ?_) (fun _ => ?_) | refine c_split_i rfl rfl (fun _ => ?_) (fun _ => ?_) | refine c_split_j rfl rfl (fun _ => ?_) (fun _ => ?_) | refine c_split_s rfl rfl (fun _ => ?_) (fun _ => ?_) | refine c_split_n rfl rfl (fun _ => ?_) (fun _ => ?_)) <;> try (first | contradiction | (exfalso; omega)))
        | refine r_val rfl rfl (by (first | omega | exact Nat.le_of_ble_eq_true rfl | ((repeat' refine And.intro ?_ ?_) <;> first | omega | rfl | trivial | exact Nat.le_refl _ | exact Nat.le_of_ble_eq_true rfl) | (simp only [Int.toNat_natCast] at *; (repeat' refine And.intro ?_ ?_) <;> first | omega | rfl | trivial | exact Nat.le_refl _ | exact Nat.le_of_ble_eq_true rfl))) ?_ | refine r_gval rfl rfl rfl rfl (by (first | omega | exact Nat.le_of_ble_eq_true rfl | ((repeat' refine And.intro ?_ ?_) <;> first | omega | rfl | trivial | exact Nat.le_refl _ | exact Nat.le_of_ble_eq_true rfl) | (simp only [Int.toNat_natCast] at *; (repeat' refine And.intro ?_ ?_) <;> first | omega | rfl | trivial | exact Nat.le_refl _ | exact Nat.le_of_ble_eq_true rfl))) ?_
        | refine r_obj rfl rfl (by (first | omega | exact Nat.le_of_ble_eq_true rfl | ((repeat' refine And.intro ?_ ?_) <;> first | omega | rfl | trivial | exact Nat.le_refl _ | exact Nat.le_of_ble_eq_true rfl) | (simp only [Int.toNat_natCast] at *; (repeat' refine And.intro ?_ ?_) <;> first | omega | rfl | trivial | exact Nat.le_refl _ | exact Nat.le_of_ble_eq_true rfl))) ?_ | refine r_sto rfl (by (first | omega | exact Nat.le_of_ble_eq_true rfl | ((repeat' refine And.intro ?_ ?_) <;> first | omega | rfl | trivial | exact Nat.le_refl _ | exact Nat.le_of_ble_eq_true rfl) | (simp only [Int.toNat_natCast] at *; (repeat' refine And.intro ?_ ?_) <;> first | omega | rfl | trivial | exact Nat.le_refl _ | exact Nat.le_of_ble_eq_true rfl))) ?_ | refine r_gobj rfl rfl rfl rfl (by (first | omega | exact Nat.le_of_ble_eq_true rfl | ((repeat' refine And.intro ?_ ?_) <;> first | omega | rfl | trivial | exact Nat.le_refl _ | exact Nat.le_of_ble_eq_true rfl) | (simp only [Int.toNat_natCast] at *; (repeat' refine And.intro ?_ ?_) <;> first | omega | rfl | trivial | exact Nat.le_refl _ | exact Nat.le_of_ble_eq_true rfl))) ?_
        | refine e_hit rfl ?_ | refine e_miss rfl ?_
        | refine ⟨by kernel_rfl, ?_⟩ | refine r_call rfl rfl Try.call21 rfl hfd ?_ | ((with_reducible refine c_grd ?_); (fail_if_success (refine c_lit true rfl rfl rfl ?_)); (fail_if_success (refine c_lit false rfl rfl rfl ?_)); refine c_split rfl rfl (fun _ => ?_) (fun _ => ?_)))
      all_goals try simp only [Int.toNat_natCast] at *
      · exact ⟨m + 1, by omega, by omega, ⟨rfl, rfl, rfl, rfl, rfl, rfl, rfl, rfl, rfl, trivial⟩, ⟨rfl, ⟨_, _, rfl, rfl, fun j hj => .inl (by
          rw [partOf_succ out (b.getD i ([], [])) m (by omega)]
          exact vecF_set (partOf out (b.getD i ([], [])) m) (atOf out (b.getD i ([], []))) (((partOf out (b.getD i ([], [])) m).getD (atOf out (b.getD i ([], []))) ([], [])).1, fieldV ((partOf out (b.getD i ([], [])) m).getD (atOf out (b.getD i ([], []))) ([], [])).2 ((b.getD i ([], [])).2.getD m ([], [])).1 ((b.getD i ([], [])).2.getD m ([], [])).2) (by rw [partOf_len]; exact hatl) j)⟩, trivial⟩, rfl, by rw [hX]; simp⟩
      · have hm : m = (b.getD i ([], [])).2.length := by omega
        have hs := hsucc (by omega)
        rw [← hm] at hs
        exact ⟨i + 1, by omega, by omega, ⟨by rw [hs, partOf_len]; rfl, rfl, rfl, rfl, trivial⟩, ⟨⟨_, _, rfl, by rw [hs, partOf_len], fun j hj => .inl (by rw [hs])⟩, trivial⟩, rfl, by rw [hX]; simp⟩
    · exact .of_eq (by rw [hall (by omega)])

end Go.Proofs.Ytejpliaomhpakaa.Flow
