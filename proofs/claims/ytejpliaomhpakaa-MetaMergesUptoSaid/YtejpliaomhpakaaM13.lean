/- META: MetaMerges' function. -/
import Derived.Test.YtejpliaomhpakaaM6
import Derived.Test.YtejpliaomhpakaaM11
import Derived.Test.YtejpliaomhpakaaM12
namespace Go.Proofs.Ytejpliaomhpakaa.Flow
open Go

theorem one_weak (X : List Fld) : Weak (.sl 2 1 (chunk 2 [.s [], .sl 2 X.length (fldF X)])) (.sl 2 [(([], X) : Vec)].length (vecF [([], X)])) :=
  Weak.sl_of rfl (fun i hi => by obtain rfl : i = 0 := by omega
                                 rfl) (fun _ _ => rfl)

set_option maxHeartbeats 16000000 in
theorem metaMerges_ctr (a b : List Vec) (l : List Lay) (name kind : Txt) (ha : smallV a) (hb : smallV b) (hl : smallL l) (hn : name.length ≤ 1048576) (hk : kind.length ≤ 1048576) :
    Ctr Try.prog 4 [.sl 2 a.length (vecF a), .sl 2 b.length (vecF b), .sl 3 l.length (layF l), .s name, .s kind] (.b true) := by
  refine r_fun Try.func4 rfl Try.ntmps4 Try.results4 rfl rfl fun X hL hX => ?_
  have q1 := rmuchV_ctr a ha
  have q2 := rmuchV_ctr b hb
  have q3 := rmuchL_ctr l hl
  have ba : muchV a = false → bnd 25 25 a := fun h => bnd_of_much h ha
  have bb : muchV b = false → bnd 25 25 b := fun h => bnd_of_much h hb
  have bm : bnd 25 25 a → bnd 25 25 b → smallV (mergeV a b) := fun h1 h2 => by
    have h3 := soFar_bnd h1 h2 b.length (Nat.le_refl _)
    have h4 := h2.1
    rw [soFar_all a b b.length (Nat.le_refl _)] at h3
    exact smallV_of_bnd h3 (by omega) (by omega)
  have hsame : bnd 25 25 a → bnd 25 25 b → Ctr Try.prog 19 [.sl 2 (mergeV a b).length (vecF (mergeV a b)), .sl 2 (mergeV a b).length (vecF (mergeV a b))] (.b true) := fun h1 h2 => by
    have h3 := vsame_ctr (mergeV a b) (mergeV a b) (bm h1 h2) (bm h1 h2)
    rwa [decide_eq_true rfl] at h3
  have hfm := fun h1 h2 => fits_ctr (mergeV a b) [] l (bm h1 h2) hl
  have hmp := merge_ctr a b
  have hmr := rmerge_ctr a b
  have hfa := rfits_ctr a [] l ha hl
  have hfb := rfits_ctr b [] l hb hl
  have hon := once_ctr b hb.1
  have claw : decide (fitsP a l) = true → decide (fitsP (mergeV a b) l) = true := fun h => decide_eq_true (fits_left (of_decide_eq_true h))
  have crw : decide (fitsP b l) = true → decide (fitsP (mergeV a b) l) = true := fun h => decide_eq_true (fits_right (of_decide_eq_true h))
  unfold infoD at hfa hfb hfm
  generalize muchV a = ma at q1 ba
  generalize muchV b = mb at q2 bb
  generalize muchL l = ml at q3
  generalize decide (fitsP (mergeV a b) l) = fm at hfm claw crw
  generalize decide (fitsP a l) = fa at hfa claw
  generalize decide (fitsP b l) = fb at hfb crw
  generalize decide (onceP b) = ob at hon
  generalize mergeV a b = M at bm hsame hfm hmp hmr
  have hal := ha.1
  have haf := fun i => (ha.2 i).2.1
  clear hb hl bm
  repeat' (first
    | with_reducible refine t_seq ?_ | with_reducible refine t_region ?_ | with_reducible refine c_nil ?_ | with_reducible refine n_then ?_
    | with_reducible refine t_ret ?_ | with_reducible refine t_skip ?_ | with_reducible refine t_exit ?_ | with_reducible refine t_block ?_
    | with_reducible refine n_block ?_ | with_reducible refine e_then ?_ | with_reducible refine x_then ?_ | with_reducible refine x_block ?_ | with_reducible refine t_draw ?_
    | refine r_val rfl rfl True.intro ?_ | refine r_gskip rfl rfl rfl ?_ | refine r_gskip2 rfl rfl rfl ?_ | refine r_gval rfl rfl rfl rfl True.intro ?_
    | refine t_true rfl ?_ | refine t_false rfl ?_
    | ((first | refine t_cond_d rfl (fun _ => ?_) (fun _ => ?_) | refine t_cond_i rfl (fun _ => ?_) (fun _ => ?_) | refine t_cond_j rfl (fun _ => ?_) (fun _ => ?_) | refine t_cond_s rfl (fun _ => ?_) (fun _ => ?_) | refine t_cond_n rfl (fun _ => ?_) (fun _ => ?_) | refine t_cond rfl (fun _ => ?_) (fun _ => ?_) | refine c_split_d rfl rfl (fun _ => ?_) (fun _ => ?_) | refine c_split_i rfl rfl (fun _ => ?_) (fun _ => ?_) | refine c_split_j rfl rfl (fun _ => ?_) (fun _ => ?_) | refine c_split_s rfl rfl (fun _ => ?_) (fun _ => ?_) | refine c_split_n rfl rfl (fun _ => ?_) (fun _ => ?_)) <;> try (first | contradiction | (exfalso; omega)))
    | refine r_val rfl rfl (by (first | omega | exact Nat.le_of_ble_eq_true rfl | ((repeat' refine And.intro ?_ ?_) <;> first | omega | rfl | trivial | exact Nat.le_refl _ | exact Nat.le_of_ble_eq_true rfl) | (simp only [Int.toNat_natCast] at *; (repeat' refine And.intro ?_ ?_) <;> first | omega | rfl | trivial | exact Nat.le_refl _ | exact Nat.le_of_ble_eq_true rfl))) ?_ | refine r_gval rfl rfl rfl rfl (by (first | omega | exact Nat.le_of_ble_eq_true rfl | ((repeat' refine And.intro ?_ ?_) <;> first | omega | rfl | trivial | exact Nat.le_refl _ | exact Nat.le_of_ble_eq_true rfl) | (simp only [Int.toNat_natCast] at *; (repeat' refine And.intro ?_ ?_) <;> first | omega | rfl | trivial | exact Nat.le_refl _ | exact Nat.le_of_ble_eq_true rfl))) ?_
    | refine r_obj rfl rfl (by (first | omega | exact Nat.le_of_ble_eq_true rfl | ((repeat' refine And.intro ?_ ?_) <;> first | omega | rfl | trivial | exact Nat.le_refl _ | exact Nat.le_of_ble_eq_true rfl) | (simp only [Int.toNat_natCast] at *; (repeat' refine And.intro ?_ ?_) <;> first | omega | rfl | trivial | exact Nat.le_refl _ | exact Nat.le_of_ble_eq_true rfl))) ?_ | refine r_sto rfl (by (first | omega | exact Nat.le_of_ble_eq_true rfl | ((repeat' refine And.intro ?_ ?_) <;> first | omega | rfl | trivial | exact Nat.le_refl _ | exact Nat.le_of_ble_eq_true rfl) | (simp only [Int.toNat_natCast] at *; (repeat' refine And.intro ?_ ?_) <;> first | omega | rfl | trivial | exact Nat.le_refl _ | exact Nat.le_of_ble_eq_true rfl))) ?_ | refine r_gobj rfl rfl rfl rfl (by (first | omega | exact Nat.le_of_ble_eq_true rfl | ((repeat' refine And.intro ?_ ?_) <;> first | omega | rfl | trivial | exact Nat.le_refl _ | exact Nat.le_of_ble_eq_true rfl) | (simp only [Int.toNat_natCast] at *; (repeat' refine And.intro ?_ ?_) <;> first | omega | rfl | trivial | exact Nat.le_refl _ | exact Nat.le_of_ble_eq_true rfl))) ?_
    | refine e_hit rfl ?_ | refine e_miss rfl ?_
    | refine ⟨by kernel_rfl, ?_⟩ | refine x_end rfl ?_ | refine n_end rfl ?_ | refine r_call rfl rfl Try.call11 rfl q1 ?_ | refine r_gcall rfl rfl rfl rfl Try.call11 rfl q2 ?_ | refine r_gcall rfl rfl rfl rfl Try.call12 rfl q3 ?_ | refine r_call rfl rfl Try.call13 rfl mlive_ctr ?_ | refine r_call rfl rfl Try.call18 rfl (hmp (ba ‹_›) (bb ‹_›)) ?_ | refine r_call rfl rfl Try.call20 rfl (hmr (ba ‹_›) (bb ‹_›)) ?_ | refine r_call rfl rfl Try.call19 rfl (hsame (ba ‹_›) (bb ‹_›)) ?_ | ((with_reducible refine c_grd ?_); (fail_if_success (refine c_lit true rfl rfl rfl ?_)); (fail_if_success (refine c_lit false rfl rfl rfl ?_)); refine c_split rfl rfl (fun _ => ?_) (fun _ => ?_)))
  all_goals first
    | (with_reducible rfl)
    | skip
  refine T.loop hL (fun i : Nat => [(0, .sl 2 a.length (vecF a)), (1, .sl 2 b.length (vecF b)), (2, .sl 3 l.length (layF l)), (3, .s name), (4, .s kind), (11, .sl 2 M.length (vecF M)), (12, .i .i64 i)]) (fun _ => [])
    (fun i => i ≤ a.length) (fun i => a.length - i) 0 (by omega)
    ⟨⟨rfl, rfl, rfl, rfl, rfl, rfl, rfl, trivial⟩, trivial, rfl, by rw [hX]; simp⟩ ?_
  intro i h1
  try dsimp only at h1 ⊢
  have hf1 := field_ctr (a.getD i ([], [])).2 name kind (haf i)
  have hf2 := rfield_ctr (a.getD i ([], [])).2 name kind (haf i)
  have hba := bnd_at (ba ‹_›) i
  obtain ⟨w1, w2⟩ := fieldV_bnd (f := (name, kind)) hba.2.1 hba.2.2 ⟨hn, hk⟩
  have hX1 : smallV [(([], ff (a.getD i ([], [])).2 (name, kind)) : Vec)] := smallV_of_bnd (A := 1) (F := 26) ⟨by simp, fun v hv => by
    obtain rfl : v = ([], ff (a.getD i ([], [])).2 (name, kind)) := by simpa using hv
    exact ⟨by simp, w1, w2⟩⟩ (by omega) (by omega)
  have hs3 := vsame_ctr [(([], fieldV (a.getD i ([], [])).2 name kind) : Vec)] [(([], fieldV (a.getD i ([], [])).2 name kind) : Vec)] hX1 hX1
  rw [decide_eq_true rfl] at hs3
  have hs4 := hs3.weak2 (one_weak (fieldV (a.getD i ([], [])).2 name kind)) (one_weak (fieldV (a.getD i ([], [])).2 name kind))
  have hfm2 := hfm (ba ‹_›) (bb ‹_›)
  clear hs3 hX1 w1 w2 ha haf hfm hmp hmr hsame q1 q2 q3
  repeat' (first
    | with_reducible refine t_seq ?_ | with_reducible refine t_region ?_ | with_reducible refine c_nil ?_ | with_reducible refine n_then ?_
    | with_reducible refine t_ret ?_ | with_reducible refine t_skip ?_ | with_reducible refine t_exit ?_ | with_reducible refine t_block ?_
    | with_reducible refine n_block ?_ | with_reducible refine e_then ?_ | with_reducible refine x_then ?_ | with_reducible refine x_block ?_ | with_reducible refine t_draw ?_
    | refine r_val rfl rfl True.intro ?_ | refine r_gskip rfl rfl rfl ?_ | refine r_gskip2 rfl rfl rfl ?_ | refine r_gval rfl rfl rfl rfl True.intro ?_
    | refine t_true rfl ?_ | refine t_false rfl ?_
    | ((first | refine t_cond_d rfl (fun _ => ?_) (fun _ => ?_) | refine t_cond_i rfl (fun _ => ?_) (fun _ => ?_) | refine t_cond_j rfl (fun _ => ?_) (fun _ => ?_) | refine t_cond_s rfl (fun _ => ?_) (fun _ => ?_) | refine t_cond_n rfl (fun _ => ?_) (fun _ => ?_) | refine t_cond rfl (fun _ => ?_) (fun _ => ?_) | refine c_split_d rfl rfl (fun _ => ?_) (fun _ => ?_) | refine c_split_i rfl rfl (fun _ => ?_) (fun _ => ?_) | refine c_split_j rfl rfl (fun _ => ?_) (fun _ => ?_) | refine c_split_s rfl rfl (fun _ => ?_) (fun _ => ?_) | refine c_split_n rfl rfl (fun _ => ?_) (fun _ => ?_)) <;> try (first | contradiction | (exfalso; omega)))
    | refine r_val rfl rfl (by (first | omega | exact Nat.le_of_ble_eq_true rfl | ((repeat' refine And.intro ?_ ?_) <;> first | omega | rfl | trivial | exact Nat.le_refl _ | exact Nat.le_of_ble_eq_true rfl) | (simp only [Int.toNat_natCast] at *; (repeat' refine And.intro ?_ ?_) <;> first | omega | rfl | trivial | exact Nat.le_refl _ | exact Nat.le_of_ble_eq_true rfl))) ?_ | refine r_gval rfl rfl rfl rfl (by (first | omega | exact Nat.le_of_ble_eq_true rfl | ((repeat' refine And.intro ?_ ?_) <;> first | omega | rfl | trivial | exact Nat.le_refl _ | exact Nat.le_of_ble_eq_true rfl) | (simp only [Int.toNat_natCast] at *; (repeat' refine And.intro ?_ ?_) <;> first | omega | rfl | trivial | exact Nat.le_refl _ | exact Nat.le_of_ble_eq_true rfl))) ?_
    | refine r_obj rfl rfl (by (first | omega | exact Nat.le_of_ble_eq_true rfl | ((repeat' refine And.intro ?_ ?_) <;> first | omega | rfl | trivial | exact Nat.le_refl _ | exact Nat.le_of_ble_eq_true rfl) | (simp only [Int.toNat_natCast] at *; (repeat' refine And.intro ?_ ?_) <;> first | omega | rfl | trivial | exact Nat.le_refl _ | exact Nat.le_of_ble_eq_true rfl))) ?_ | refine r_sto rfl (by (first | omega | exact Nat.le_of_ble_eq_true rfl | ((repeat' refine And.intro ?_ ?_) <;> first | omega | rfl | trivial | exact Nat.le_refl _ | exact Nat.le_of_ble_eq_true rfl) | (simp only [Int.toNat_natCast] at *; (repeat' refine And.intro ?_ ?_) <;> first | omega | rfl | trivial | exact Nat.le_refl _ | exact Nat.le_of_ble_eq_true rfl))) ?_ | refine r_gobj rfl rfl rfl rfl (by (first | omega | exact Nat.le_of_ble_eq_true rfl | ((repeat' refine And.intro ?_ ?_) <;> first | omega | rfl | trivial | exact Nat.le_refl _ | exact Nat.le_of_ble_eq_true rfl) | (simp only [Int.toNat_natCast] at *; (repeat' refine And.intro ?_ ?_) <;> first | omega | rfl | trivial | exact Nat.le_refl _ | exact Nat.le_of_ble_eq_true rfl))) ?_
    | refine e_hit rfl ?_ | refine e_miss rfl ?_
    | refine ⟨by kernel_rfl, ?_⟩ | refine x_end rfl ?_ | refine n_end rfl ?_ | refine r_call rfl rfl Try.call21 rfl hf1 ?_ | refine r_call rfl rfl Try.call22 rfl hf2 ?_ | refine r_call rfl rfl Try.call19 rfl hs4 ?_ | refine r_call rfl rfl Try.call17 rfl hfa ?_ | refine r_gcall rfl rfl rfl rfl Try.call23 rfl hon ?_ | refine r_gcall rfl rfl rfl rfl Try.call17 rfl hfb ?_ | refine r_gcall rfl rfl rfl rfl Try.call16 rfl hfm2 ?_ | refine r_gcall rfl rfl rfl rfl Try.call13 rfl mlive_ctr ?_ | ((with_reducible refine c_grd ?_); (fail_if_success (refine c_lit true rfl rfl rfl ?_)); (fail_if_success (refine c_lit false rfl rfl rfl ?_)); refine c_split rfl rfl (fun _ => ?_) (fun _ => ?_)))
  all_goals first
    | (with_reducible rfl)
    | exact ⟨i + 1, by omega, by omega, ⟨rfl, rfl, rfl, rfl, rfl, rfl, rfl, trivial⟩, trivial, rfl, by rw [hX]; simp⟩
    | (clear hf1 hf2 hba hs4 hfm2 hfa hfb hon ba bb; exfalso; simp_all; done)
    | (clear hf1 hf2 hba hs4 hfm2 hfa hfb hon ba bb; simp_all; done)

end Go.Proofs.Ytejpliaomhpakaa.Flow
