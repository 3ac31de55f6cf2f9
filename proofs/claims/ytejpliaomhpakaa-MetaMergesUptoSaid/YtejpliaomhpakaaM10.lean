/- META: Merge, the document's. -/
import Derived.Test.YtejpliaomhpakaaM9
namespace Go.Proofs.Ytejpliaomhpakaa.Flow
open Go

theorem idxI_snoc {n : Txt} : ∀ {l : List Txt}, idxI n l < 0 → idxI n (l ++ [n]) = l.length
  | [], _ => by simp [idxI]
  | a :: r, h => by
    simp only [idxI] at h
    by_cases e : a = n
    · rw [if_pos e] at h; omega
    · rw [if_neg e] at h
      have hr : idxI n r < 0 := by
        by_cases e2 : idxI n r < 0
        · exact e2
        · rw [if_neg e2] at h; omega
      have ih := idxI_snoc (n := n) (l := r) hr
      simp only [List.cons_append, idxI, if_neg e, ih, List.length_cons]
      rw [if_neg (by omega)]
      omega

theorem at_idx (out : List Vec) (v : Vec) : idxI v.1 ((outOf out v).map (·.1)) = atOf out v := by
  unfold outOf atOf
  by_cases e : idxI v.1 (out.map (·.1)) < 0
  · rw [if_pos e, if_pos e, List.map_append]
    have := idxI_snoc e
    rw [List.length_map] at this
    exact this
  · rw [if_neg e, if_neg e]
    omega

theorem Weak.of_WL {e n n' : Nat} {f g : Nat → List D} (hn : n = n') (h : ∀ i, i < n → WL (f i) (g i)) (hp : ∀ i, i < n → (g i).all D.plain = true) : Weak (.sl e n f) (.sl e n' g) := by
  subst hn
  refine .sl e n f g (fun i hi => ⟨?_, hp i hi⟩) (fun i j hi hj => ?_)
  · rcases h i hi with h | ⟨h, _⟩
    · rw [h]
    · exact h
  · rcases h i hi with h | ⟨_, _, h⟩
    · exact .of_eq (by rw [h])
    · exact h j hj

set_option maxHeartbeats 16000000 in
theorem rmerge_ctr (a b : List Vec) (ha : bnd 25 25 a) (hb : bnd 25 25 b) : Ctr Try.prog 20 [.sl 2 a.length (vecF a), .sl 2 b.length (vecF b)] (.sl 2 (mergeV a b).length (vecF (mergeV a b))) := by
  refine r_fun Try.func20 rfl Try.ntmps20 Try.results20 rfl rfl fun X hL hX => ?_
  have hal := ha.1
  have hbl := hb.1
  repeat' (first
    | refine r_arr (t := 9) rfl rfl (by (first | omega | exact Nat.le_of_ble_eq_true rfl | ((repeat' refine And.intro ?_ ?_) <;> first | omega | rfl | trivial | exact Nat.le_refl _ | exact Nat.le_of_ble_eq_true rfl) | (simp only [Int.toNat_natCast] at *; (repeat' refine And.intro ?_ ?_) <;> first | omega | rfl | trivial | exact Nat.le_refl _ | exact Nat.le_of_ble_eq_true rfl))) ?_
    | with_reducible refine t_seq ?_ | with_reducible refine t_region ?_ | with_reducible refine c_nil ?_ | with_reducible refine n_then ?_
    | with_reducible refine t_ret ?_ | with_reducible refine t_skip ?_ | with_reducible refine t_exit ?_ | with_reducible refine t_block ?_
    | with_reducible refine n_block ?_ | with_reducible refine e_then ?_ | with_reducible refine x_then ?_ | with_reducible refine x_block ?_ | with_reducible refine t_draw ?_
    | refine r_val rfl rfl True.intro ?_ | refine r_gskip rfl rfl rfl ?_ | refine r_gskip2 rfl rfl rfl ?_ | refine r_gval rfl rfl rfl rfl True.intro ?_
    | refine t_true rfl ?_ | refine t_false rfl ?_
    | ((first | refine t_cond_d rfl (fun _ => ?_) (fun _ => ?_) | refine t_cond_i rfl (fun _ => ?_) (fun _ => ?_) | refine t_cond_j rfl (fun _ => ?_) (fun _ => ?_) | refine t_cond_s rfl (fun _ => ?_) (fun _ => ?_) | refine t_cond_n rfl (fun _ => ?_) (fun _ => ?_) | refine t_cond rfl (fun _ => ?_) (fun _ => ?_) | refine c_split_d rfl rfl (fun _ => ?_) (fun _ => ?_) | refine c_split_i rfl rfl (fun _ => ?_) (fun _ => ?_) | refine c_split_j rfl rfl (fun _ => ?_) (fun _ => ?_) | refine c_split_s rfl rfl (fun _ => ?_) (fun _ => ?_) | refine c_split_n rfl rfl (fun _ => ?_) (fun _ => ?_)) <;> try (first | contradiction | (exfalso; omega)))
    | refine r_val rfl rfl (by (first | omega | exact Nat.le_of_ble_eq_true rfl | ((repeat' refine And.intro ?_ ?_) <;> first | omega | rfl | trivial | exact Nat.le_refl _ | exact Nat.le_of_ble_eq_true rfl) | (simp only [Int.toNat_natCast] at *; (repeat' refine And.intro ?_ ?_) <;> first | omega | rfl | trivial | exact Nat.le_refl _ | exact Nat.le_of_ble_eq_true rfl))) ?_ | refine r_gval rfl rfl rfl rfl (by (first | omega | exact Nat.le_of_ble_eq_true rfl | ((repeat' refine And.intro ?_ ?_) <;> first | omega | rfl | trivial | exact Nat.le_refl _ | exact Nat.le_of_ble_eq_true rfl) | (simp only [Int.toNat_natCast] at *; (repeat' refine And.intro ?_ ?_) <;> first | omega | rfl | trivial | exact Nat.le_refl _ | exact Nat.le_of_ble_eq_true rfl))) ?_
    | refine r_obj rfl rfl (by (first | omega | exact Nat.le_of_ble_eq_true rfl | ((repeat' refine And.intro ?_ ?_) <;> first | omega | rfl | trivial | exact Nat.le_refl _ | exact Nat.le_of_ble_eq_true rfl) | (simp only [Int.toNat_natCast] at *; (repeat' refine And.intro ?_ ?_) <;> first | omega | rfl | trivial | exact Nat.le_refl _ | exact Nat.le_of_ble_eq_true rfl))) ?_ | refine r_sto rfl (by (first | omega | exact Nat.le_of_ble_eq_true rfl | ((repeat' refine And.intro ?_ ?_) <;> first | omega | rfl | trivial | exact Nat.le_refl _ | exact Nat.le_of_ble_eq_true rfl) | (simp only [Int.toNat_natCast] at *; (repeat' refine And.intro ?_ ?_) <;> first | omega | rfl | trivial | exact Nat.le_refl _ | exact Nat.le_of_ble_eq_true rfl))) ?_ | refine r_gobj rfl rfl rfl rfl (by (first | omega | exact Nat.le_of_ble_eq_true rfl | ((repeat' refine And.intro ?_ ?_) <;> first | omega | rfl | trivial | exact Nat.le_refl _ | exact Nat.le_of_ble_eq_true rfl) | (simp only [Int.toNat_natCast] at *; (repeat' refine And.intro ?_ ?_) <;> first | omega | rfl | trivial | exact Nat.le_refl _ | exact Nat.le_of_ble_eq_true rfl))) ?_
    | refine e_hit rfl ?_ | refine e_miss rfl ?_
    | refine ⟨by kernel_rfl, ?_⟩ | ((with_reducible refine c_grd ?_); (fail_if_success (refine c_lit true rfl rfl rfl ?_)); (fail_if_success (refine c_lit false rfl rfl rfl ?_)); refine c_split rfl rfl (fun _ => ?_) (fun _ => ?_)))
  refine T.loop hL (fun i : Nat => [(1, .sl 2 b.length (vecF b)), (5, .ah 9 2 (soFar a b i).length), (6, .i .i64 i)]) (fun i => [(9, .arr 38 2 (soFar a b i).length (vecF (soFar a b i)))])
    (fun i => i ≤ b.length) (fun i => b.length - i) 0 (by omega)
    ⟨⟨rfl, (congrArg (D.ah 9 2) (Nat.zero_add a.length) : _), rfl, trivial⟩, ⟨⟨_, _, rfl, Nat.zero_add _, fun i hi => .inl (by
      have hi' : i < a.length := hi
      unfold catF
      rw [if_neg (by omega), if_pos (by omega), Nat.sub_zero]
      rfl)⟩, trivial⟩, rfl, by rw [hX]; simp⟩ ?_
  intro i h1
  try dsimp only at h1 ⊢
  have hob := soFar_bnd ha hb i h1
  have hsucc := soFar_succ a b i
  have hall := soFar_all a b i
  generalize soFar a b i = out at hob hsucc hall
  have hol := hob.1
  obtain ⟨v1, v2, v3⟩ := bnd_at hb i
  have hpb := fun m => partOf_bnd (G := 25) m hob v1 v2 v3
  have hplace := place_ctr out (b.getD i ([], [])).1 (by omega)
  have hoo := (outOf_bnd hob v1).1
  have hplace2 := place_ctr (outOf out (b.getD i ([], []))) (b.getD i ([], [])).1 (by omega)
  rw [at_idx] at hplace2
  have hneg : idxI (b.getD i ([], [])).1 (out.map (·.1)) < 0 → outOf out (b.getD i ([], [])) = out ++ [((b.getD i ([], [])).1, [])] := fun h => if_pos h
  have hpos : ¬ idxI (b.getD i ([], [])).1 (out.map (·.1)) < 0 → outOf out (b.getD i ([], [])) = out := fun h => if_neg h
  have hatl := at_lt out (b.getD i ([], []))
  have hp0 := partOf_zero out (b.getD i ([], []))
  generalize idxI (b.getD i ([], [])).1 (out.map (·.1)) = ix at hplace hneg hpos
  have hpl1 : ix < 0 → Ctr Try.prog 53 [.sl 2 (out.length + 1) (catF out.length (vecF out) 1 (chunk 2 [.s (b.getD i ([], [])).1, .nilS])), .s (b.getD i ([], [])).1] (.i .i64 (atOf out (b.getD i ([], [])))) := fun h =>
    hplace2.weak2 (Weak.of_WL (by rw [hneg h]; simp) (fun j hj => by rw [hneg h]; exact vecF_snoc out _ _ rfl j hj) (fun _ _ => rfl)) (.refl _)
  have hpl2 : ¬ ix < 0 → Ctr Try.prog 53 [.sl 2 out.length (vecF out), .s (b.getD i ([], [])).1] (.i .i64 (atOf out (b.getD i ([], [])))) := fun h => by
    rw [hpos h] at hplace2
    exact hplace2
  clear hplace2
  repeat' (first
    | refine r_callS (t := 24) rfl rfl Try.call53 ⟨⟨rfl, rfl⟩, trivial, trivial⟩ rfl hplace rfl ?_
    | with_reducible refine t_seq ?_ | with_reducible refine t_region ?_ | with_reducible refine c_nil ?_ | with_reducible refine n_then ?_
    | with_reducible refine t_ret ?_ | with_reducible refine t_skip ?_ | with_reducible refine t_exit ?_ | with_reducible refine t_block ?_
    | with_reducible refine n_block ?_ | with_reducible refine e_then ?_ | with_reducible refine x_then ?_ | with_reducible refine x_block ?_ | with_reducible refine t_draw ?_
    | refine r_val rfl rfl True.intro ?_ | refine r_gskip rfl rfl rfl ?_ | refine r_gskip2 rfl rfl rfl ?_ | refine r_gval rfl rfl rfl rfl True.intro ?_
    | refine t_true rfl ?_ | refine t_false rfl ?_
    | ((first | refine t_cond_d rfl (fun _ => ?_) (fun _ => ?_) | refine t_cond_i rfl (fun _ => ?_) (fun _ => ?_) | refine t_cond_j rfl (fun _ => ?_) (fun _ => ?_) | refine t_cond_s rfl (fun _ => ?_) (fun _ => ?_) | refine t_cond_n rfl (fun _ => ?_) (fun _ => ?_) | refine t_cond rfl (fun _ => ?_) (fun _ => ?_) | refine c_split_d rfl rfl (fun _ => ?_) (fun _ => ?_) | refine c_split_i rfl rfl (fun _ => ?_) (fun _ => ?_) | refine c_split_j rfl rfl (fun _ => ?_) (fun _ => ?_) | refine c_split_s rfl rfl (fun _ => ?_) (fun _ => ?_) | refine c_split_n rfl rfl (fun _ => ?_) (fun _ => ?_)) <;> try (first | contradiction | (exfalso; omega)))
    | refine r_val rfl rfl (by (first | omega | exact Nat.le_of_ble_eq_true rfl | ((repeat' refine And.intro ?_ ?_) <;> first | omega | rfl | trivial | exact Nat.le_refl _ | exact Nat.le_of_ble_eq_true rfl) | (simp only [Int.toNat_natCast] at *; (repeat' refine And.intro ?_ ?_) <;> first | omega | rfl | trivial | exact Nat.le_refl _ | exact Nat.le_of_ble_eq_true rfl))) ?_ | refine r_gval rfl rfl rfl rfl (by (first | omega | exact Nat.le_of_ble_eq_true rfl | ((repeat' refine And.intro ?_ ?_) <;> first | omega | rfl | trivial | exact Nat.le_refl _ | exact Nat.le_of_ble_eq_true rfl) | (simp only [Int.toNat_natCast] at *; (repeat' refine And.intro ?_ ?_) <;> first | omega | rfl | trivial | exact Nat.le_refl _ | exact Nat.le_of_ble_eq_true rfl))) ?_
    | refine r_obj rfl rfl (by (first | omega | exact Nat.le_of_ble_eq_true rfl | ((repeat' refine And.intro ?_ ?_) <;> first | omega | rfl | trivial | exact Nat.le_refl _ | exact Nat.le_of_ble_eq_true rfl) | (simp only [Int.toNat_natCast] at *; (repeat' refine And.intro ?_ ?_) <;> first | omega | rfl | trivial | exact Nat.le_refl _ | exact Nat.le_of_ble_eq_true rfl))) ?_ | refine r_sto rfl (by (first | omega | exact Nat.le_of_ble_eq_true rfl | ((repeat' refine And.intro ?_ ?_) <;> first | omega | rfl | trivial | exact Nat.le_refl _ | exact Nat.le_of_ble_eq_true rfl) | (simp only [Int.toNat_natCast] at *; (repeat' refine And.intro ?_ ?_) <;> first | omega | rfl | trivial | exact Nat.le_refl _ | exact Nat.le_of_ble_eq_true rfl))) ?_ | refine r_gobj rfl rfl rfl rfl (by (first | omega | exact Nat.le_of_ble_eq_true rfl | ((repeat' refine And.intro ?_ ?_) <;> first | omega | rfl | trivial | exact Nat.le_refl _ | exact Nat.le_of_ble_eq_true rfl) | (simp only [Int.toNat_natCast] at *; (repeat' refine And.intro ?_ ?_) <;> first | omega | rfl | trivial | exact Nat.le_refl _ | exact Nat.le_of_ble_eq_true rfl))) ?_
    | refine e_hit rfl ?_ | refine e_miss rfl ?_
    | refine ⟨by kernel_rfl, ?_⟩ | refine x_endF [4] 9 rfl ⟨rfl, trivial⟩ rfl ?_ | refine n_endF [4] 9 rfl ⟨rfl, trivial⟩ rfl ?_ | refine r_callS (t := 41) rfl rfl Try.call53 ⟨⟨rfl, rfl⟩, trivial, trivial⟩ rfl (hpl1 ‹_›) rfl ?_ | refine r_callS (t := 41) rfl rfl Try.call53 ⟨⟨rfl, rfl⟩, trivial, trivial⟩ rfl (hpl2 ‹_›) rfl ?_ | ((with_reducible refine c_grd ?_); (fail_if_success (refine c_lit true rfl rfl rfl ?_)); (fail_if_success (refine c_lit false rfl rfl rfl ?_)); refine c_split rfl rfl (fun _ => ?_) (fun _ => ?_)))
  all_goals try simp only [Int.toNat_natCast] at *
  · have e1 := hneg (by assumption)
    refine T.loop hL (fun m : Nat => [(1, .sl 2 b.length (vecF b)), (5, .ah 9 2 (outOf out (b.getD i ([], []))).length), (6, .i .i64 i), (7, .i .i64 (atOf out (b.getD i ([], [])))), (8, .i .i64 m)])
      (fun m => [(9, .arr 38 2 (outOf out (b.getD i ([], []))).length (vecF (partOf out (b.getD i ([], [])) m)))])
      (fun m => m ≤ (b.getD i ([], [])).2.length) (fun m => (b.getD i ([], [])).2.length - m) 0 (by omega)
      ⟨⟨rfl, by rw [e1]; simp; rfl, rfl, rfl, rfl, trivial⟩, ⟨⟨_, _, rfl, by rw [e1]; simp, fun j hj => by rw [hp0, e1]; exact vecF_snoc out _ _ rfl j (by rw [e1] at hj; simpa using hj)⟩, trivial⟩, rfl, by rw [hX]; simp⟩ ?_
    clear e1 hneg hpos hplace hpl1 hpl2 hp0
    intro m g1
    try dsimp only at g1 ⊢
    have hpm := bnd_at (hpb m) (atOf out (b.getD i ([], [])))
    have hfd := rfield_ctr ((partOf out (b.getD i ([], [])) m).getD (atOf out (b.getD i ([], []))) ([], [])).2 ((b.getD i ([], [])).2.getD m ([], [])).1 ((b.getD i ([], [])).2.getD m ([], [])).2 (by omega)
    repeat' (first
      | with_reducible refine t_seq ?_ | with_reducible refine t_region ?_ | with_reducible refine c_nil ?_ | with_reducible refine n_then ?_
      | with_reducible refine t_ret ?_ | with_reducible refine t_skip ?_ | with_reducible refine t_exit ?_ | with_reducible refine t_block ?_
      | with_reducible refine n_block ?_ | with_reducible refine e_then ?_ | with_reducible refine x_then ?_ | with_reducible refine x_block ?_ | with_reducible refine t_draw ?_
      | refine r_val rfl rfl True.intro ?_ | refine r_gskip rfl rfl rfl ?_ | refine r_gskip2 rfl rfl rfl ?_ | refine r_gval rfl rfl rfl rfl True.intro ?_
      | refine t_true rfl ?_ | refine t_false rfl ?_
      | ((first | refine t_cond_d rfl (fun _ => ?_) (fun _ => ?_) | refine t_cond_i rfl (fun _ => ?_) (fun _ => ?_) | refine t_cond_j rfl (fun _ => ?_) (fun _ => ?_) | refine t_cond_s rfl (fun _ => ?_) (fun _ => ?_) | refine t_cond_n rfl (fun _ => ?_) (fun _ => ?_) | refine t_cond rfl (fun _ => ?_) (fun _ => ?_) | refine c_split_d rfl rfl (fun _ => ?_) (fun _ => ?_) | refine c_split_i rfl rfl (fun _ => ?_) (fun _ => ?_) | refine c_split_j rfl rfl (fun _ => ?_) (fun _ => ?_) | refine c_split_s rfl rfl (fun _ => ?_) (fun _ => ?_) | refine c_split_n rfl rfl (fun _ => ?_) (fun _ => ?_)) <;> try (first | contradiction | (exfalso; omega)))
      | refine r_val rfl rfl (by (first | omega | exact Nat.le_of_ble_eq_true rfl | ((repeat' refine And.intro ?_ ?_) <;> first | omega | rfl | trivial | exact Nat.le_refl _ | exact Nat.le_of_ble_eq_true rfl) | (simp only [Int.toNat_natCast] at *; (repeat' refine And.intro ?_ ?_) <;> first | omega | rfl | trivial | exact Nat.le_refl _ | exact Nat.le_of_ble_eq_true rfl))) ?_ | refine r_gval rfl rfl rfl rfl (by (first | omega | exact Nat.le_of_ble_eq_true rfl | ((repeat' refine And.intro ?_ ?_) <;> first | omega | rfl | trivial | exact Nat.le_refl _ | exact Nat.le_of_ble_eq_true rfl) | (simp only [Int.toNat_natCast] at *; (repeat' refine And.intro ?_ ?_) <;> first | omega | rfl | trivial | exact Nat.le_refl _ | exact Nat.le_of_ble_eq_true rfl))) ?_
      | refine r_obj rfl rfl (by (first | omega | exact Nat.le_of_ble_eq_true rfl | ((repeat' refine And.intro ?_ ?_) <;> first | omega | rfl | trivial | exact Nat.le_refl _ | exact Nat.le_of_ble_eq_true rfl) | (simp only [Int.toNat_natCast] at *; (repeat' refine And.intro ?_ ?_) <;> first | omega | rfl | trivial | exact Nat.le_refl _ | exact Nat.le_of_ble_eq_true rfl))) ?_ | refine r_sto rfl (by (first | omega | exact Nat.le_of_ble_eq_true rfl | ((repeat' refine And.intro ?_ ?_) <;> first | omega | rfl | trivial | exact Nat.le_refl _ | exact Nat.le_of_ble_eq_true rfl) | (simp only [Int.toNat_natCast] at *; (repeat' refine And.intro ?_ ?_) <;> first | omega | rfl | trivial | exact Nat.le_refl _ | exact Nat.le_of_ble_eq_true rfl))) ?_ | refine r_gobj rfl rfl rfl rfl (by (first | omega | exact Nat.le_of_ble_eq_true rfl | ((repeat' refine And.intro ?_ ?_) <;> first | omega | rfl | trivial | exact Nat.le_refl _ | exact Nat.le_of_ble_eq_true rfl) | (simp only [Int.toNat_natCast] at *; (repeat' refine And.intro ?_ ?_) <;> first | omega | rfl | trivial | exact Nat.le_refl _ | exact Nat.le_of_ble_eq_true rfl))) ?_
      | refine e_hit rfl ?_ | refine e_miss rfl ?_
      | refine ⟨by kernel_rfl, ?_⟩ | refine r_call rfl rfl Try.call22 rfl hfd ?_ | ((with_reducible refine c_grd ?_); (fail_if_success (refine c_lit true rfl rfl rfl ?_)); (fail_if_success (refine c_lit false rfl rfl rfl ?_)); refine c_split rfl rfl (fun _ => ?_) (fun _ => ?_)))
    all_goals try simp only [Int.toNat_natCast] at *
    · exact ⟨m + 1, by omega, by omega, ⟨rfl, rfl, rfl, rfl, rfl, trivial⟩, ⟨⟨_, _, rfl, rfl, fun j hj => .inl (by
        rw [partOf_succ out (b.getD i ([], [])) m (by omega)]
        exact vecF_set (partOf out (b.getD i ([], [])) m) (atOf out (b.getD i ([], []))) (((partOf out (b.getD i ([], [])) m).getD (atOf out (b.getD i ([], []))) ([], [])).1, fieldV ((partOf out (b.getD i ([], [])) m).getD (atOf out (b.getD i ([], []))) ([], [])).2 ((b.getD i ([], [])).2.getD m ([], [])).1 ((b.getD i ([], [])).2.getD m ([], [])).2) (by rw [partOf_len]; exact hatl) j)⟩, trivial⟩, rfl, by rw [hX]; simp⟩
    · have hm : m = (b.getD i ([], [])).2.length := by omega
      have hs := hsucc (by omega)
      rw [← hm] at hs
      exact ⟨i + 1, by omega, by omega, ⟨rfl, by rw [hs, partOf_len]; rfl, rfl, trivial⟩, ⟨⟨_, _, rfl, by rw [hs, partOf_len], fun j hj => .inl (by rw [hs])⟩, trivial⟩, rfl, by rw [hX]; simp⟩
  · have e1 := hpos (by assumption)
    refine T.loop hL (fun m : Nat => [(1, .sl 2 b.length (vecF b)), (5, .ah 9 2 (outOf out (b.getD i ([], []))).length), (6, .i .i64 i), (7, .i .i64 (atOf out (b.getD i ([], [])))), (8, .i .i64 m)])
      (fun m => [(9, .arr 38 2 (outOf out (b.getD i ([], []))).length (vecF (partOf out (b.getD i ([], [])) m)))])
      (fun m => m ≤ (b.getD i ([], [])).2.length) (fun m => (b.getD i ([], [])).2.length - m) 0 (by omega)
      ⟨⟨rfl, by rw [e1]; rfl, rfl, rfl, rfl, trivial⟩, ⟨⟨_, _, rfl, by rw [e1], fun j hj => .inl (by rw [hp0, e1])⟩, trivial⟩, rfl, by rw [hX]; simp⟩ ?_
    clear e1 hneg hpos hplace hpl1 hpl2 hp0
    intro m g1
    try dsimp only at g1 ⊢
    have hpm := bnd_at (hpb m) (atOf out (b.getD i ([], [])))
    have hfd := rfield_ctr ((partOf out (b.getD i ([], [])) m).getD (atOf out (b.getD i ([], []))) ([], [])).2 ((b.getD i ([], [])).2.getD m ([], [])).1 ((b.getD i ([], [])).2.getD m ([], [])).2 (by omega)
    repeat' (first
      | with_reducible refine t_seq ?_ | with_reducible refine t_region ?_ | with_reducible refine c_nil ?_ | with_reducible refine n_then ?_
      | with_reducible refine t_ret ?_ | with_reducible refine t_skip ?_ | with_reducible refine t_exit ?_ | with_reducible refine t_block ?_
      | with_reducible refine n_block ?_ | with_reducible refine e_then ?_ | with_reducible refine x_then ?_ | with_reducible refine x_block ?_ | with_reducible refine t_draw ?_
      | refine r_val rfl rfl True.intro ?_ | refine r_gskip rfl rfl rfl ?_ | refine r_gskip2 rfl rfl rfl ?_ | refine r_gval rfl rfl rfl rfl True.intro ?_
      | refine t_true rfl ?_ | refine t_false rfl ?_
      | ((first | refine t_cond_d rfl (fun _ => ?_) (fun _ => ?_) | refine t_cond_i rfl (fun _ => ?_) (fun _ => ?_) | refine t_cond_j rfl (fun _ => ?_) (fun _ => ?_) | refine t_cond_s rfl (fun _ => ?_) (fun _ => ?_) | refine t_cond_n rfl (fun _ => ?_) (fun _ => ?_) | refine t_cond rfl (fun _ => ?_) (fun _ => ?_) | refine c_split_d rfl rfl (fun _ => ?_) (fun _ => ?_) | refine c_split_i rfl rfl (fun _ => ?_) (fun _ => ?_) | refine c_split_j rfl rfl (fun _ => ?_) (fun _ => ?_) | refine c_split_s rfl rfl (fun _ => ?_) (fun _ => ?_) | refine c_split_n rfl rfl (fun _ => ?_) (fun _ => ?_)) <;> try (first | contradiction | (exfalso; omega)))
      | refine r_val rfl rfl (by (first | omega | exact Nat.le_of_ble_eq_true rfl | ((repeat' refine And.intro ?_ ?_) <;> first | omega | rfl | trivial | exact Nat.le_refl _ | exact Nat.le_of_ble_eq_true rfl) | (simp only [Int.toNat_natCast] at *; (repeat' refine And.intro ?_ ?_) <;> first | omega | rfl | trivial | exact Nat.le_refl _ | exact Nat.le_of_ble_eq_true rfl))) ?_ | refine r_gval rfl rfl rfl rfl (by (first | omega | exact Nat.le_of_ble_eq_true rfl | ((repeat' refine And.intro ?_ ?_) <;> first | omega | rfl | trivial | exact Nat.le_refl _ | exact Nat.le_of_ble_eq_true rfl) | (simp only [Int.toNat_natCast] at *; (repeat' refine And.intro ?_ ?_) <;> first | omega | rfl | trivial | exact Nat.le_refl _ | exact Nat.le_of_ble_eq_true rfl))) ?_
      | refine r_obj rfl rfl (by (first | omega | exact Nat.le_of_ble_eq_true rfl | ((repeat' refine And.intro ?_ ?_) <;> first | omega | rfl | trivial | exact Nat.le_refl _ | exact Nat.le_of_ble_eq_true rfl) | (simp only [Int.toNat_natCast] at *; (repeat' refine And.intro ?_ ?_) <;> first | omega | rfl | trivial | exact Nat.le_refl _ | exact Nat.le_of_ble_eq_true rfl))) ?_ | refine r_sto rfl (by (first | omega | exact Nat.le_of_ble_eq_true rfl | ((repeat' refine And.intro ?_ ?_) <;> first | omega | rfl | trivial | exact Nat.le_refl _ | exact Nat.le_of_ble_eq_true rfl) | (simp only [Int.toNat_natCast] at *; (repeat' refine And.intro ?_ ?_) <;> first | omega | rfl | trivial | exact Nat.le_refl _ | exact Nat.le_of_ble_eq_true rfl))) ?_ | refine r_gobj rfl rfl rfl rfl (by (first | omega | exact Nat.le_of_ble_eq_true rfl | ((repeat' refine And.intro ?_ ?_) <;> first | omega | rfl | trivial | exact Nat.le_refl _ | exact Nat.le_of_ble_eq_true rfl) | (simp only [Int.toNat_natCast] at *; (repeat' refine And.intro ?_ ?_) <;> first | omega | rfl | trivial | exact Nat.le_refl _ | exact Nat.le_of_ble_eq_true rfl))) ?_
      | refine e_hit rfl ?_ | refine e_miss rfl ?_
      | refine ⟨by kernel_rfl, ?_⟩ | refine r_call rfl rfl Try.call22 rfl hfd ?_ | ((with_reducible refine c_grd ?_); (fail_if_success (refine c_lit true rfl rfl rfl ?_)); (fail_if_success (refine c_lit false rfl rfl rfl ?_)); refine c_split rfl rfl (fun _ => ?_) (fun _ => ?_)))
    all_goals try simp only [Int.toNat_natCast] at *
    · exact ⟨m + 1, by omega, by omega, ⟨rfl, rfl, rfl, rfl, rfl, trivial⟩, ⟨⟨_, _, rfl, rfl, fun j hj => .inl (by
        rw [partOf_succ out (b.getD i ([], [])) m (by omega)]
        exact vecF_set (partOf out (b.getD i ([], [])) m) (atOf out (b.getD i ([], []))) (((partOf out (b.getD i ([], [])) m).getD (atOf out (b.getD i ([], []))) ([], [])).1, fieldV ((partOf out (b.getD i ([], [])) m).getD (atOf out (b.getD i ([], []))) ([], [])).2 ((b.getD i ([], [])).2.getD m ([], [])).1 ((b.getD i ([], [])).2.getD m ([], [])).2) (by rw [partOf_len]; exact hatl) j)⟩, trivial⟩, rfl, by rw [hX]; simp⟩
    · have hm : m = (b.getD i ([], [])).2.length := by omega
      have hs := hsucc (by omega)
      rw [← hm] at hs
      exact ⟨i + 1, by omega, by omega, ⟨rfl, by rw [hs, partOf_len]; rfl, rfl, trivial⟩, ⟨⟨_, _, rfl, by rw [hs, partOf_len], fun j hj => .inl (by rw [hs])⟩, trivial⟩, rfl, by rw [hX]; simp⟩
  · exact .of_eq (by rw [hall (by omega)])

end Go.Proofs.Ytejpliaomhpakaa.Flow
