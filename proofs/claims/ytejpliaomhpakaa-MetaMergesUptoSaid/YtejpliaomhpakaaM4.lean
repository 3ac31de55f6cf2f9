/- META: a tile's layers; the document's Much of them. -/
import Derived.Test.YtejpliaomhpakaaM2
namespace Go.Proofs.Ytejpliaomhpakaa.Flow
open Go

abbrev Att := Txt × Int × Txt × Int
structure Feat where
  hid : Bool
  id : Int
  ty : Int
  pn : Nat
  pf : Nat → Nat × (Nat → List D)
  ats : List Att
abbrev Lay := Txt × Int × List Feat

def dA : Att := ([], 0, [], 0)
def dF : Feat := ⟨false, 0, 0, 0, fun _ => (0, fun _ => [.i .i64 0, .i .i64 0]), []⟩
def dL : Lay := ([], 0, [])

def pthF (p : Nat → Nat × (Nat → List D)) : Nat → List D := fun k => [.sl 2 (p k).1 (p k).2]
def attF (l : List Att) : Nat → List D := fun i => [.s (l.getD i dA).1, .i .i64 (l.getD i dA).2.1, .s (l.getD i dA).2.2.1, .i .u64 (l.getD i dA).2.2.2]
def featF (l : List Feat) : Nat → List D := fun i => [.b (l.getD i dF).hid, .i .u64 (l.getD i dF).id, .i .i64 (l.getD i dF).ty, .sl 1 (l.getD i dF).pn (pthF (l.getD i dF).pf), .sl 4 (l.getD i dF).ats.length (attF (l.getD i dF).ats)]
def layF (l : List Lay) : Nat → List D := fun i => [.s (l.getD i dL).1, .i .i64 (l.getD i dL).2.1, .sl 5 (l.getD i dL).2.2.length (featF (l.getD i dL).2.2)]

def smallA (l : List Att) : Prop := l.length ≤ 1048576 ∧ ∀ i, (l.getD i dA).1.length ≤ 1048576 ∧ (l.getD i dA).2.2.1.length ≤ 1048576
def smallFe (f : Feat) : Prop := f.pn ≤ 1048576 ∧ (∀ k, (f.pf k).1 ≤ 1048576) ∧ smallA f.ats
def smallL (l : List Lay) : Prop := l.length ≤ 1048576 ∧ ∀ i, (l.getD i dL).1.length ≤ 1048576 ∧ (l.getD i dL).2.2.length ≤ 1048576 ∧ ∀ k, smallFe ((l.getD i dL).2.2.getD k dF)

def pthW (p : Nat → Nat × (Nat → List D)) (k : Nat) (n : Int) : Option Int := if n + 1 + ((p k).1 : Int) > 300 then none else some (n + 1 + ((p k).1 : Int))
def muchP (pn : Nat) (p : Nat → Nat × (Nat → List D)) : Bool :=
  match scanO (pthW p) pn 40 0 0 with
  | none => true
  | some _ => decide (pn > 40)

set_option maxHeartbeats 4000000 in
theorem rmuchP_ctr (pn : Nat) (p : Nat → Nat × (Nat → List D)) (h1 : pn ≤ 1048576) (h2 : ∀ k, (p k).1 ≤ 1048576) : Ctr Try.prog 49 [.sl 1 pn (pthF p)] (.b (muchP pn p)) := by
  refine r_fun Try.func49 rfl Try.ntmps49 Try.results49 rfl rfl fun X hL hX => ?_
  repeat' (first
    | with_reducible refine t_seq ?_ | with_reducible refine t_region ?_ | with_reducible refine c_nil ?_ | with_reducible refine n_then ?_
    | with_reducible refine t_ret ?_ | with_reducible refine t_skip ?_ | with_reducible refine t_exit ?_ | with_reducible refine t_block ?_
    | with_reducible refine n_block ?_ | with_reducible refine e_then ?_ | with_reducible refine x_then ?_ | with_reducible refine x_block ?_ | with_reducible refine t_draw ?_
    | refine r_val rfl rfl True.intro ?_ | refine r_gskip rfl rfl rfl ?_ | refine r_gskip2 rfl rfl rfl ?_ | refine r_gval rfl rfl rfl rfl True.intro ?_
    | refine t_true rfl ?_ | refine t_false rfl ?_
    | ((first | refine t_cond_d rfl (fun _ => ?_) (fun _ => ?_) | refine t_cond_i rfl (fun _ => ?_) (fun _ => ?_) | refine t_cond_j rfl (fun _ => ?_) (fun _ => ?_) | refine t_cond_s rfl (fun _ => ?_) (fun _ => ?_) | refine t_cond_n rfl (fun _ => ?_) (fun _ => ?_) | refine t_cond rfl (fun _ => ?_) (fun _ => ?_) | refine c_split_d rfl rfl (fun _ => ?_) (fun _ => ?_) | refine c_split_i rfl rfl (fun _ => ?_) (fun _ => ?_) | refine c_split_j rfl rfl (fun _ => ?_) (fun _ => ?_) | refine c_split_s rfl rfl (fun _ => ?_) (fun _ => ?_) | refine c_split_n rfl rfl (fun _ => ?_) (fun _ => ?_)) <;> try (first | contradiction | (exfalso; omega)))
    | refine r_val rfl rfl (by (first | omega | exact Nat.le_of_ble_eq_true rfl | (simp_all; done) | (simp_all; omega) | ((repeat' refine And.intro ?_ ?_) <;> first | omega | rfl | exact Nat.le_refl _ | exact Nat.le_of_ble_eq_true rfl | exact bytesF_one _ | (simp_all; done) | (simp_all; omega)))) ?_ | refine r_gval rfl rfl rfl rfl (by (first | omega | exact Nat.le_of_ble_eq_true rfl | (simp_all; done) | (simp_all; omega) | ((repeat' refine And.intro ?_ ?_) <;> first | omega | rfl | exact Nat.le_refl _ | exact Nat.le_of_ble_eq_true rfl | exact bytesF_one _ | (simp_all; done) | (simp_all; omega)))) ?_
    | refine r_obj rfl rfl (by (first | omega | exact Nat.le_of_ble_eq_true rfl | (simp_all; done) | (simp_all; omega) | ((repeat' refine And.intro ?_ ?_) <;> first | omega | rfl | exact Nat.le_refl _ | exact Nat.le_of_ble_eq_true rfl | exact bytesF_one _ | (simp_all; done) | (simp_all; omega)))) ?_ | refine r_sto rfl (by (first | omega | exact Nat.le_of_ble_eq_true rfl | (simp_all; done) | (simp_all; omega) | ((repeat' refine And.intro ?_ ?_) <;> first | omega | rfl | exact Nat.le_refl _ | exact Nat.le_of_ble_eq_true rfl | exact bytesF_one _ | (simp_all; done) | (simp_all; omega)))) ?_ | refine r_gobj rfl rfl rfl rfl (by (first | omega | exact Nat.le_of_ble_eq_true rfl | (simp_all; done) | (simp_all; omega) | ((repeat' refine And.intro ?_ ?_) <;> first | omega | rfl | exact Nat.le_refl _ | exact Nat.le_of_ble_eq_true rfl | exact bytesF_one _ | (simp_all; done) | (simp_all; omega)))) ?_
    | refine e_hit rfl ?_ | refine e_miss rfl ?_
    | refine ⟨by kernel_rfl, ?_⟩ | refine x_end rfl ?_ | refine n_end rfl ?_ | ((with_reducible refine c_grd ?_); (fail_if_success (refine c_lit true rfl rfl rfl ?_)); (fail_if_success (refine c_lit false rfl rfl rfl ?_)); refine c_split rfl rfl (fun _ => ?_) (fun _ => ?_)))
  refine T.loop hL (fun x : Nat × Int => [(0, .sl 1 pn (pthF p)), (3, .i .i64 x.2), (4, .i .i64 x.1)]) (fun _ => [])
    (fun x => x.1 ≤ 40 ∧ 0 ≤ x.2 ∧ x.2 ≤ 300 ∧ scanO (pthW p) pn 40 x.1 x.2 = scanO (pthW p) pn 40 0 0) (fun x => 40 - x.1) (0, 0) (by simp)
    ⟨⟨rfl, rfl, rfl, trivial⟩, trivial, rfl, by rw [hX]; simp⟩ ?_
  rintro ⟨i, n⟩ ⟨g1, g2, g3, g4⟩
  dsimp only at g1 g2 g3 g4 ⊢
  have hi := h2 i
  unfold muchP
  repeat' (first
    | with_reducible refine t_seq ?_ | with_reducible refine t_region ?_ | with_reducible refine c_nil ?_ | with_reducible refine n_then ?_
    | with_reducible refine t_ret ?_ | with_reducible refine t_skip ?_ | with_reducible refine t_exit ?_ | with_reducible refine t_block ?_
    | with_reducible refine n_block ?_ | with_reducible refine e_then ?_ | with_reducible refine x_then ?_ | with_reducible refine x_block ?_ | with_reducible refine t_draw ?_
    | refine r_val rfl rfl True.intro ?_ | refine r_gskip rfl rfl rfl ?_ | refine r_gskip2 rfl rfl rfl ?_ | refine r_gval rfl rfl rfl rfl True.intro ?_
    | refine t_true rfl ?_ | refine t_false rfl ?_
    | ((first | refine t_cond_d rfl (fun _ => ?_) (fun _ => ?_) | refine t_cond_i rfl (fun _ => ?_) (fun _ => ?_) | refine t_cond_j rfl (fun _ => ?_) (fun _ => ?_) | refine t_cond_s rfl (fun _ => ?_) (fun _ => ?_) | refine t_cond_n rfl (fun _ => ?_) (fun _ => ?_) | refine t_cond rfl (fun _ => ?_) (fun _ => ?_) | refine c_split_d rfl rfl (fun _ => ?_) (fun _ => ?_) | refine c_split_i rfl rfl (fun _ => ?_) (fun _ => ?_) | refine c_split_j rfl rfl (fun _ => ?_) (fun _ => ?_) | refine c_split_s rfl rfl (fun _ => ?_) (fun _ => ?_) | refine c_split_n rfl rfl (fun _ => ?_) (fun _ => ?_)) <;> try (first | contradiction | (exfalso; omega)))
    | refine r_val rfl rfl (by (first | omega | exact Nat.le_of_ble_eq_true rfl | (simp only [Int.toNat_natCast]; (repeat' refine And.intro ?_ ?_) <;> first | omega | rfl | exact Nat.le_refl _))) ?_ | refine r_gval rfl rfl rfl rfl (by (first | omega | exact Nat.le_of_ble_eq_true rfl | (simp only [Int.toNat_natCast]; (repeat' refine And.intro ?_ ?_) <;> first | omega | rfl | exact Nat.le_refl _))) ?_
    | refine r_obj rfl rfl (by (first | omega | exact Nat.le_of_ble_eq_true rfl | (simp only [Int.toNat_natCast]; (repeat' refine And.intro ?_ ?_) <;> first | omega | rfl | exact Nat.le_refl _))) ?_ | refine r_sto rfl (by (first | omega | exact Nat.le_of_ble_eq_true rfl | (simp only [Int.toNat_natCast]; (repeat' refine And.intro ?_ ?_) <;> first | omega | rfl | exact Nat.le_refl _))) ?_ | refine r_gobj rfl rfl rfl rfl (by (first | omega | exact Nat.le_of_ble_eq_true rfl | (simp only [Int.toNat_natCast]; (repeat' refine And.intro ?_ ?_) <;> first | omega | rfl | exact Nat.le_refl _))) ?_
    | refine e_hit rfl ?_ | refine e_miss rfl ?_
    | refine ⟨by kernel_rfl, ?_⟩ | refine x_end rfl ?_ | refine n_end rfl ?_ | ((with_reducible refine c_grd ?_); (fail_if_success (refine c_lit true rfl rfl rfl ?_)); (fail_if_success (refine c_lit false rfl rfl rfl ?_)); refine c_split rfl rfl (fun _ => ?_) (fun _ => ?_)))
  all_goals try simp only [Int.toNat_natCast] at *
  · have e := scanO_stop (step := pthW p) (len := pn) (B := 40) (i := i) (n := n) (by omega) (by omega) (by unfold pthW; rw [if_pos (by omega)])
    rw [← g4, e]
  · exact ⟨(i + 1, n + 1 + ((p i).1 : Int)), ⟨by dsimp only; omega, by dsimp only; omega, by dsimp only; omega, by rw [← g4]; exact (scanO_more (by omega) (by omega) (by unfold pthW; rw [if_neg (by omega)])).symm⟩, by dsimp only; omega, ⟨rfl, rfl, rfl, trivial⟩, trivial, rfl, by rw [hX]; simp⟩
  all_goals
    rw [← g4, scanO_end (fun h => by omega)]
    try (show D.b _ = D.b _; congr 1; rw [Bool.eq_iff_iff]; simp only [decide_eq_true_eq]; omega)

def attW (l : List Att) (m : Nat) (n : Int) : Option Int := some (n + 2 + ((l.getD m dA).1.length : Int) + ((l.getD m dA).2.2.1.length : Int))
def featW (l : List Feat) (k : Nat) (n : Int) : Option Int :=
  if muchP (l.getD k dF).pn (l.getD k dF).pf = true ∨ (l.getD k dF).ats.length > 20 then none else scanO (attW (l.getD k dF).ats) (l.getD k dF).ats.length 20 0 n
def layW (l : List Lay) (i : Nat) (n : Int) : Option Int :=
  match scanO (featW (l.getD i dL).2.2) (l.getD i dL).2.2.length 40 0 (n + ((l.getD i dL).1.length : Int)) with
  | none => none
  | some m => if m > 1500 ∨ (l.getD i dL).2.2.length > 30 then none else some m
def muchL (l : List Lay) : Bool :=
  match scanO (layW l) l.length 12 0 0 with
  | none => true
  | some _ => decide (l.length > 10)

set_option maxHeartbeats 16000000 in
theorem rmuchL_ctr (l : List Lay) (hl : smallL l) : Ctr Try.prog 12 [.sl 3 l.length (layF l)] (.b (muchL l)) := by
  refine r_fun Try.func12 rfl Try.ntmps12 Try.results12 rfl rfl fun X hL hX => ?_
  obtain ⟨hl1, hl2⟩ := hl
  obtain ⟨R, hR⟩ : ∃ R, R = muchL l := ⟨_, rfl⟩
  rw [← hR]
  repeat' (first
    | with_reducible refine t_seq ?_ | with_reducible refine t_region ?_ | with_reducible refine c_nil ?_ | with_reducible refine n_then ?_
    | with_reducible refine t_ret ?_ | with_reducible refine t_skip ?_ | with_reducible refine t_exit ?_ | with_reducible refine t_block ?_
    | with_reducible refine n_block ?_ | with_reducible refine e_then ?_ | with_reducible refine x_then ?_ | with_reducible refine x_block ?_ | with_reducible refine t_draw ?_
    | refine r_val rfl rfl True.intro ?_ | refine r_gskip rfl rfl rfl ?_ | refine r_gskip2 rfl rfl rfl ?_ | refine r_gval rfl rfl rfl rfl True.intro ?_
    | refine t_true rfl ?_ | refine t_false rfl ?_
    | ((first | refine t_cond_d rfl (fun _ => ?_) (fun _ => ?_) | refine t_cond_i rfl (fun _ => ?_) (fun _ => ?_) | refine t_cond_j rfl (fun _ => ?_) (fun _ => ?_) | refine t_cond_s rfl (fun _ => ?_) (fun _ => ?_) | refine t_cond_n rfl (fun _ => ?_) (fun _ => ?_) | refine t_cond rfl (fun _ => ?_) (fun _ => ?_) | refine c_split_d rfl rfl (fun _ => ?_) (fun _ => ?_) | refine c_split_i rfl rfl (fun _ => ?_) (fun _ => ?_) | refine c_split_j rfl rfl (fun _ => ?_) (fun _ => ?_) | refine c_split_s rfl rfl (fun _ => ?_) (fun _ => ?_) | refine c_split_n rfl rfl (fun _ => ?_) (fun _ => ?_)) <;> try (first | contradiction | (exfalso; omega)))
    | refine r_val rfl rfl (by (first | omega | exact Nat.le_of_ble_eq_true rfl | (simp_all; done) | (simp_all; omega) | ((repeat' refine And.intro ?_ ?_) <;> first | omega | rfl | exact Nat.le_refl _ | exact Nat.le_of_ble_eq_true rfl | exact bytesF_one _ | (simp_all; done) | (simp_all; omega)))) ?_ | refine r_gval rfl rfl rfl rfl (by (first | omega | exact Nat.le_of_ble_eq_true rfl | (simp_all; done) | (simp_all; omega) | ((repeat' refine And.intro ?_ ?_) <;> first | omega | rfl | exact Nat.le_refl _ | exact Nat.le_of_ble_eq_true rfl | exact bytesF_one _ | (simp_all; done) | (simp_all; omega)))) ?_
    | refine r_obj rfl rfl (by (first | omega | exact Nat.le_of_ble_eq_true rfl | (simp_all; done) | (simp_all; omega) | ((repeat' refine And.intro ?_ ?_) <;> first | omega | rfl | exact Nat.le_refl _ | exact Nat.le_of_ble_eq_true rfl | exact bytesF_one _ | (simp_all; done) | (simp_all; omega)))) ?_ | refine r_sto rfl (by (first | omega | exact Nat.le_of_ble_eq_true rfl | (simp_all; done) | (simp_all; omega) | ((repeat' refine And.intro ?_ ?_) <;> first | omega | rfl | exact Nat.le_refl _ | exact Nat.le_of_ble_eq_true rfl | exact bytesF_one _ | (simp_all; done) | (simp_all; omega)))) ?_ | refine r_gobj rfl rfl rfl rfl (by (first | omega | exact Nat.le_of_ble_eq_true rfl | (simp_all; done) | (simp_all; omega) | ((repeat' refine And.intro ?_ ?_) <;> first | omega | rfl | exact Nat.le_refl _ | exact Nat.le_of_ble_eq_true rfl | exact bytesF_one _ | (simp_all; done) | (simp_all; omega)))) ?_
    | refine e_hit rfl ?_ | refine e_miss rfl ?_
    | refine ⟨by kernel_rfl, ?_⟩ | refine x_end rfl ?_ | refine n_end rfl ?_ | ((with_reducible refine c_grd ?_); (fail_if_success (refine c_lit true rfl rfl rfl ?_)); (fail_if_success (refine c_lit false rfl rfl rfl ?_)); refine c_split rfl rfl (fun _ => ?_) (fun _ => ?_)))
  refine T.loop hL (fun x : Nat × Int => [(0, .sl 3 l.length (layF l)), (3, .i .i64 x.2), (4, .i .i64 x.1)]) (fun _ => [])
    (fun x => x.1 ≤ 12 ∧ 0 ≤ x.2 ∧ x.2 ≤ (x.1 : Int) * 1678771776 ∧ scanO (layW l) l.length 12 x.1 x.2 = scanO (layW l) l.length 12 0 0) (fun x => 12 - x.1) (0, 0) (by simp)
    ⟨⟨rfl, rfl, rfl, trivial⟩, trivial, rfl, by rw [hX]; simp⟩ ?_
  rintro ⟨i, n⟩ ⟨a1, a2, a3, a4⟩
  dsimp only at a1 a2 a3 a4 ⊢
  obtain ⟨i1, i2, i3⟩ := hl2 i
  have stop : i < l.length → i < 12 → layW l i n = none → D.b true = D.b R := fun x y z => by
    have e := scanO_stop (step := layW l) (len := l.length) (B := 12) (i := i) (n := n) x y z
    rw [hR]; unfold muchL; rw [← a4, e]
  have fin : (i < l.length → ¬ i < 12) → D.b (decide (10 < (l.length : Int))) = D.b R := fun x => by
    rw [hR]; unfold muchL; rw [← a4, scanO_end x]
    show D.b _ = D.b _; congr 1; rw [Bool.eq_iff_iff]; simp only [decide_eq_true_eq]; omega
  have more : ∀ m, i < l.length → i < 12 → layW l i n = some m → scanO (layW l) l.length 12 (i + 1) m = scanO (layW l) l.length 12 0 0 := fun m x y z => by rw [← a4]; exact (scanO_more x y z).symm
  clear hl2 hR a4
  repeat' (first
    | with_reducible refine t_seq ?_ | with_reducible refine t_region ?_ | with_reducible refine c_nil ?_ | with_reducible refine n_then ?_
    | with_reducible refine t_ret ?_ | with_reducible refine t_skip ?_ | with_reducible refine t_exit ?_ | with_reducible refine t_block ?_
    | with_reducible refine n_block ?_ | with_reducible refine e_then ?_ | with_reducible refine x_then ?_ | with_reducible refine x_block ?_ | with_reducible refine t_draw ?_
    | refine r_val rfl rfl True.intro ?_ | refine r_gskip rfl rfl rfl ?_ | refine r_gskip2 rfl rfl rfl ?_ | refine r_gval rfl rfl rfl rfl True.intro ?_
    | refine t_true rfl ?_ | refine t_false rfl ?_
    | ((first | refine t_cond_d rfl (fun _ => ?_) (fun _ => ?_) | refine t_cond_i rfl (fun _ => ?_) (fun _ => ?_) | refine t_cond_j rfl (fun _ => ?_) (fun _ => ?_) | refine t_cond_s rfl (fun _ => ?_) (fun _ => ?_) | refine t_cond_n rfl (fun _ => ?_) (fun _ => ?_) | refine t_cond rfl (fun _ => ?_) (fun _ => ?_) | refine c_split_d rfl rfl (fun _ => ?_) (fun _ => ?_) | refine c_split_i rfl rfl (fun _ => ?_) (fun _ => ?_) | refine c_split_j rfl rfl (fun _ => ?_) (fun _ => ?_) | refine c_split_s rfl rfl (fun _ => ?_) (fun _ => ?_) | refine c_split_n rfl rfl (fun _ => ?_) (fun _ => ?_)) <;> try (first | contradiction | (exfalso; omega)))
    | refine r_val rfl rfl (by (first | omega | exact Nat.le_of_ble_eq_true rfl | (simp only [Int.toNat_natCast] at *; (repeat' refine And.intro ?_ ?_) <;> first | omega | rfl | exact Nat.le_refl _))) ?_ | refine r_gval rfl rfl rfl rfl (by (first | omega | exact Nat.le_of_ble_eq_true rfl | (simp only [Int.toNat_natCast] at *; (repeat' refine And.intro ?_ ?_) <;> first | omega | rfl | exact Nat.le_refl _))) ?_
    | refine r_obj rfl rfl (by (first | omega | exact Nat.le_of_ble_eq_true rfl | (simp only [Int.toNat_natCast] at *; (repeat' refine And.intro ?_ ?_) <;> first | omega | rfl | exact Nat.le_refl _))) ?_ | refine r_sto rfl (by (first | omega | exact Nat.le_of_ble_eq_true rfl | (simp only [Int.toNat_natCast] at *; (repeat' refine And.intro ?_ ?_) <;> first | omega | rfl | exact Nat.le_refl _))) ?_ | refine r_gobj rfl rfl rfl rfl (by (first | omega | exact Nat.le_of_ble_eq_true rfl | (simp only [Int.toNat_natCast] at *; (repeat' refine And.intro ?_ ?_) <;> first | omega | rfl | exact Nat.le_refl _))) ?_
    | refine e_hit rfl ?_ | refine e_miss rfl ?_
    | refine ⟨by kernel_rfl, ?_⟩ | refine x_end rfl ?_ | refine n_end rfl ?_ | ((with_reducible refine c_grd ?_); (fail_if_success (refine c_lit true rfl rfl rfl ?_)); (fail_if_success (refine c_lit false rfl rfl rfl ?_)); refine c_split rfl rfl (fun _ => ?_) (fun _ => ?_)))
  · refine T.loop hL (fun x : Nat × Int => [(0, .sl 3 l.length (layF l)), (3, .i .i64 x.2), (4, .i .i64 i), (5, .i .i64 x.1)]) (fun _ => [])
      (fun x => x.1 ≤ 40 ∧ 0 ≤ x.2 ∧ x.2 ≤ (i : Int) * 1678771776 + 1048576 + (x.1 : Int) * 41943080 ∧ scanO (featW (l.getD i dL).2.2) (l.getD i dL).2.2.length 40 x.1 x.2 = scanO (featW (l.getD i dL).2.2) (l.getD i dL).2.2.length 40 0 (n + ((l.getD i dL).1.length : Int)))
      (fun x => 40 - x.1) (0, n + ((l.getD i dL).1.length : Int)) (by dsimp only; refine ⟨by omega, by omega, by omega, rfl⟩)
      ⟨⟨rfl, rfl, rfl, rfl, trivial⟩, trivial, rfl, by rw [hX]; simp⟩ ?_
    rintro ⟨k, m⟩ ⟨b1, b2, b3, b4⟩
    dsimp only at b1 b2 b3 b4 ⊢
    obtain ⟨f1, f2, f3, f4⟩ := i3 k
    have hmp := rmuchP_ctr ((l.getD i dL).2.2.getD k dF).pn ((l.getD i dL).2.2.getD k dF).pf f1 f2
    have stop2 : k < (l.getD i dL).2.2.length → k < 40 → featW (l.getD i dL).2.2 k m = none → i < l.length → i < 12 → D.b true = D.b R := fun x y z u v => by
      have e := scanO_stop (step := featW (l.getD i dL).2.2) (len := (l.getD i dL).2.2.length) (B := 40) (i := k) (n := m) x y z
      exact stop u v (by unfold layW; rw [← b4, e])
    have more2 : ∀ m2, k < (l.getD i dL).2.2.length → k < 40 → featW (l.getD i dL).2.2 k m = some m2 → scanO (featW (l.getD i dL).2.2) (l.getD i dL).2.2.length 40 (k + 1) m2 = scanO (featW (l.getD i dL).2.2) (l.getD i dL).2.2.length 40 0 (n + ((l.getD i dL).1.length : Int)) := fun m2 x y z => by rw [← b4]; exact (scanO_more x y z).symm
    have fin2 : (k < (l.getD i dL).2.2.length → ¬ k < 40) → layW l i n = if m > 1500 ∨ (l.getD i dL).2.2.length > 30 then none else some m := fun x => by
      unfold layW; rw [← b4, scanO_end x]
    have hfw : featW (l.getD i dL).2.2 k m = if muchP ((l.getD i dL).2.2.getD k dF).pn ((l.getD i dL).2.2.getD k dF).pf = true ∨ ((l.getD i dL).2.2.getD k dF).ats.length > 20 then none else scanO (attW ((l.getD i dL).2.2.getD k dF).ats) ((l.getD i dL).2.2.getD k dF).ats.length 20 0 m := rfl
    clear i3 b4
    generalize muchP ((l.getD i dL).2.2.getD k dF).pn ((l.getD i dL).2.2.getD k dF).pf = mp at hmp hfw
    repeat' (first
      | with_reducible refine t_seq ?_ | with_reducible refine t_region ?_ | with_reducible refine c_nil ?_ | with_reducible refine n_then ?_
      | with_reducible refine t_ret ?_ | with_reducible refine t_skip ?_ | with_reducible refine t_exit ?_ | with_reducible refine t_block ?_
      | with_reducible refine n_block ?_ | with_reducible refine e_then ?_ | with_reducible refine x_then ?_ | with_reducible refine x_block ?_ | with_reducible refine t_draw ?_
      | refine r_val rfl rfl True.intro ?_ | refine r_gskip rfl rfl rfl ?_ | refine r_gskip2 rfl rfl rfl ?_ | refine r_gval rfl rfl rfl rfl True.intro ?_
      | refine t_true rfl ?_ | refine t_false rfl ?_
      | ((first | refine t_cond_d rfl (fun _ => ?_) (fun _ => ?_) | refine t_cond_i rfl (fun _ => ?_) (fun _ => ?_) | refine t_cond_j rfl (fun _ => ?_) (fun _ => ?_) | refine t_cond_s rfl (fun _ => ?_) (fun _ => ?_) | refine t_cond_n rfl (fun _ => ?_) (fun _ => ?_) | refine t_cond rfl (fun _ => ?_) (fun _ => ?_) | refine c_split_d rfl rfl (fun _ => ?_) (fun _ => ?_) | refine c_split_i rfl rfl (fun _ => ?_) (fun _ => ?_) | refine c_split_j rfl rfl (fun _ => ?_) (fun _ => ?_) | refine c_split_s rfl rfl (fun _ => ?_) (fun _ => ?_) | refine c_split_n rfl rfl (fun _ => ?_) (fun _ => ?_)) <;> try (first | contradiction | (exfalso; omega)))
      | refine r_val rfl rfl (by (first | omega | exact Nat.le_of_ble_eq_true rfl | (simp only [Int.toNat_natCast] at *; (repeat' refine And.intro ?_ ?_) <;> first | omega | rfl | exact Nat.le_refl _))) ?_ | refine r_gval rfl rfl rfl rfl (by (first | omega | exact Nat.le_of_ble_eq_true rfl | (simp only [Int.toNat_natCast] at *; (repeat' refine And.intro ?_ ?_) <;> first | omega | rfl | exact Nat.le_refl _))) ?_
      | refine r_obj rfl rfl (by (first | omega | exact Nat.le_of_ble_eq_true rfl | (simp only [Int.toNat_natCast] at *; (repeat' refine And.intro ?_ ?_) <;> first | omega | rfl | exact Nat.le_refl _))) ?_ | refine r_sto rfl (by (first | omega | exact Nat.le_of_ble_eq_true rfl | (simp only [Int.toNat_natCast] at *; (repeat' refine And.intro ?_ ?_) <;> first | omega | rfl | exact Nat.le_refl _))) ?_ | refine r_gobj rfl rfl rfl rfl (by (first | omega | exact Nat.le_of_ble_eq_true rfl | (simp only [Int.toNat_natCast] at *; (repeat' refine And.intro ?_ ?_) <;> first | omega | rfl | exact Nat.le_refl _))) ?_
      | refine e_hit rfl ?_ | refine e_miss rfl ?_
      | refine ⟨by kernel_rfl, ?_⟩ | refine x_end rfl ?_ | refine n_end rfl ?_ | refine r_call rfl rfl Try.call49 rfl hmp ?_ | ((with_reducible refine c_grd ?_); (fail_if_success (refine c_lit true rfl rfl rfl ?_)); (fail_if_success (refine c_lit false rfl rfl rfl ?_)); refine c_split rfl rfl (fun _ => ?_) (fun _ => ?_)))
    all_goals try simp only [Int.toNat_natCast] at *
    all_goals try (exact stop2 (by omega) (by omega) (by rw [hfw]; exact if_pos (.inl (by assumption))) (by omega) (by omega))
    all_goals try (exact stop2 (by omega) (by omega) (by rw [hfw]; exact if_pos (.inr (by omega))) (by omega) (by omega))
    · have hmpf : ¬ (mp = true) := by simp [*]
      refine T.loop hL (fun x : Nat × Int => [(0, .sl 3 l.length (layF l)), (3, .i .i64 x.2), (4, .i .i64 i), (5, .i .i64 k), (6, .pv 6 0), (7, .i .i64 x.1)])
        (fun _ => [(6, .var [.b ((l.getD i dL).2.2.getD k dF).hid, .i .u64 ((l.getD i dL).2.2.getD k dF).id, .i .i64 ((l.getD i dL).2.2.getD k dF).ty, .sl 1 ((l.getD i dL).2.2.getD k dF).pn (pthF ((l.getD i dL).2.2.getD k dF).pf), .sl 4 ((l.getD i dL).2.2.getD k dF).ats.length (attF ((l.getD i dL).2.2.getD k dF).ats)])])
        (fun x => x.1 ≤ ((l.getD i dL).2.2.getD k dF).ats.length ∧ 0 ≤ x.2 ∧ x.2 ≤ m + (x.1 : Int) * 2097154 ∧ scanO (attW ((l.getD i dL).2.2.getD k dF).ats) ((l.getD i dL).2.2.getD k dF).ats.length 20 x.1 x.2 = scanO (attW ((l.getD i dL).2.2.getD k dF).ats) ((l.getD i dL).2.2.getD k dF).ats.length 20 0 m)
        (fun x => ((l.getD i dL).2.2.getD k dF).ats.length - x.1) (0, m) (by dsimp only; refine ⟨by omega, by omega, by omega, rfl⟩)
        ⟨⟨rfl, rfl, rfl, rfl, rfl, rfl, trivial⟩, ⟨rfl, trivial⟩, rfl, by rw [hX]; simp⟩ ?_
      rintro ⟨q, u⟩ ⟨c1, c2, c3, c4⟩
      dsimp only at c1 c2 c3 c4 ⊢
      obtain ⟨e1, e2⟩ := f4 q
      clear f4 stop stop2 fin fin2 more hmp
      repeat' (first
        | with_reducible refine t_seq ?_ | with_reducible refine t_region ?_ | with_reducible refine c_nil ?_ | with_reducible refine n_then ?_
        | with_reducible refine t_ret ?_ | with_reducible refine t_skip ?_ | with_reducible refine t_exit ?_ | with_reducible refine t_block ?_
        | with_reducible refine n_block ?_ | with_reducible refine e_then ?_ | with_reducible refine x_then ?_ | with_reducible refine x_block ?_ | with_reducible refine t_draw ?_
        | refine r_val rfl rfl True.intro ?_ | refine r_gskip rfl rfl rfl ?_ | refine r_gskip2 rfl rfl rfl ?_ | refine r_gval rfl rfl rfl rfl True.intro ?_
        | refine t_true rfl ?_ | refine t_false rfl ?_
        | ((first | refine t_cond_d rfl (fun _ => ?_) (fun _ => ?_) | refine t_cond_i rfl (fun _ => ?_) (fun _ => ?_) | refine t_cond_j rfl (fun _ => ?_) (fun _ => ?_) | refine t_cond_s rfl (fun _ => ?_) (fun _ => ?_) | refine t_cond_n rfl (fun _ => ?_) (fun _ => ?_) | refine t_cond rfl (fun _ => ?_) (fun _ => ?_) | refine c_split_d rfl rfl (fun _ => ?_) (fun _ => ?_) | refine c_split_i rfl rfl (fun _ => ?_) (fun _ => ?_) | refine c_split_j rfl rfl (fun _ => ?_) (fun _ => ?_) | refine c_split_s rfl rfl (fun _ => ?_) (fun _ => ?_) | refine c_split_n rfl rfl (fun _ => ?_) (fun _ => ?_)) <;> try (first | contradiction | (exfalso; omega)))
        | refine r_val rfl rfl (by (first | omega | exact Nat.le_of_ble_eq_true rfl | (simp only [Int.toNat_natCast] at *; (repeat' refine And.intro ?_ ?_) <;> first | omega | rfl | exact Nat.le_refl _))) ?_ | refine r_gval rfl rfl rfl rfl (by (first | omega | exact Nat.le_of_ble_eq_true rfl | (simp only [Int.toNat_natCast] at *; (repeat' refine And.intro ?_ ?_) <;> first | omega | rfl | exact Nat.le_refl _))) ?_
        | refine r_obj rfl rfl (by (first | omega | exact Nat.le_of_ble_eq_true rfl | (simp only [Int.toNat_natCast] at *; (repeat' refine And.intro ?_ ?_) <;> first | omega | rfl | exact Nat.le_refl _))) ?_ | refine r_sto rfl (by (first | omega | exact Nat.le_of_ble_eq_true rfl | (simp only [Int.toNat_natCast] at *; (repeat' refine And.intro ?_ ?_) <;> first | omega | rfl | exact Nat.le_refl _))) ?_ | refine r_gobj rfl rfl rfl rfl (by (first | omega | exact Nat.le_of_ble_eq_true rfl | (simp only [Int.toNat_natCast] at *; (repeat' refine And.intro ?_ ?_) <;> first | omega | rfl | exact Nat.le_refl _))) ?_
        | refine e_hit rfl ?_ | refine e_miss rfl ?_
        | refine ⟨by kernel_rfl, ?_⟩ | refine x_end rfl ?_ | refine n_end rfl ?_ | ((with_reducible refine c_grd ?_); (fail_if_success (refine c_lit true rfl rfl rfl ?_)); (fail_if_success (refine c_lit false rfl rfl rfl ?_)); refine c_split rfl rfl (fun _ => ?_) (fun _ => ?_)))
      all_goals try simp only [Int.toNat_natCast] at *
      · exact ⟨(q + 1, u + 2 + ((((l.getD i dL).2.2.getD k dF).ats.getD q dA).1.length : Int) + ((((l.getD i dL).2.2.getD k dF).ats.getD q dA).2.2.1.length : Int)), ⟨by dsimp only; omega, by dsimp only; omega, by dsimp only; omega, by rw [← c4]; exact (scanO_more (by omega) (by omega) rfl).symm⟩, by dsimp only; omega, ⟨rfl, rfl, rfl, rfl, rfl, rfl, trivial⟩, ⟨rfl, trivial⟩, rfl, by rw [hX]; simp⟩
      · have e : scanO (attW ((l.getD i dL).2.2.getD k dF).ats) ((l.getD i dL).2.2.getD k dF).ats.length 20 0 m = some u := by rw [← c4]; exact scanO_end (fun h => by omega)
        exact ⟨(k + 1, u), ⟨by dsimp only; omega, by dsimp only; omega, by dsimp only; omega, more2 u (by omega) (by omega) (by rw [hfw, if_neg (fun h => h.elim hmpf (fun h => by omega))]; exact e)⟩, by dsimp only; omega, ⟨rfl, rfl, rfl, rfl, trivial⟩, trivial, rfl, by rw [hX]; simp⟩
    all_goals
      have hfin := fin2 (fun h => by omega)
      first
        | exact stop (by omega) (by omega) (by rw [hfin]; exact if_pos (by omega))
        | exact ⟨(i + 1, m), ⟨by dsimp only; omega, by dsimp only; omega, by dsimp only; omega, more m (by omega) (by omega) (by rw [hfin]; exact if_neg (by omega))⟩, by dsimp only; omega, ⟨rfl, rfl, rfl, trivial⟩, trivial, rfl, by rw [hX]; simp⟩
  all_goals exact fin (fun h => by omega)

end Go.Proofs.Ytejpliaomhpakaa.Flow
