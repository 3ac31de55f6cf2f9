/- The texts M4, U19, R8, R9, FlowV, LibsB, BW, one behind the other. -/
import Derived.Test.YtinjdlckhmkmaaaDoorPkL4
import Derived.Test.YtinjdlckhmkmaaaDoorPkL8
import Derived.Test.YtinjdlckhmkmaaaDoorPkL9
import Derived.Lib.UnsafeStr
import Derived.Lib.ReplaceLaws
/- META: a tile's layers; the document's Much of them. -/
namespace Go.Proofs.YtinjdlckhmkmaaaDoor.Flow
open Go

abbrev Att := Txt × Int × Txt × Int
structure Feat where
  hid : Bool
  id : Int
  ty : Int
  pn : Nat
  pf : Nat → Nat × (Nat → List D)
  ats : List Att
abbrev Lay := Txt × Int × List Feat

def dA : Att := ([], 0, [], 0)
def dF : Feat := ⟨false, 0, 0, 0, fun _ => (0, fun _ => [.i .i64 0, .i .i64 0]), []⟩
def dL : Lay := ([], 0, [])

def pthF (p : Nat → Nat × (Nat → List D)) : Nat → List D := fun k => [.sl 2 (p k).1 (p k).2]
def attF (l : List Att) : Nat → List D := fun i => [.s (l.getD i dA).1, .i .i64 (l.getD i dA).2.1, .s (l.getD i dA).2.2.1, .i .u64 (l.getD i dA).2.2.2]
def featF (l : List Feat) : Nat → List D := fun i => [.b (l.getD i dF).hid, .i .u64 (l.getD i dF).id, .i .i64 (l.getD i dF).ty, .sl 1 (l.getD i dF).pn (pthF (l.getD i dF).pf), .sl 4 (l.getD i dF).ats.length (attF (l.getD i dF).ats)]
def layF (l : List Lay) : Nat → List D := fun i => [.s (l.getD i dL).1, .i .i64 (l.getD i dL).2.1, .sl 5 (l.getD i dL).2.2.length (featF (l.getD i dL).2.2)]

def smallA (l : List Att) : Prop := l.length ≤ 1048576 ∧ ∀ i, (l.getD i dA).1.length ≤ 1048576 ∧ (l.getD i dA).2.2.1.length ≤ 1048576
def smallFe (f : Feat) : Prop := f.pn ≤ 1048576 ∧ (∀ k, (f.pf k).1 ≤ 1048576) ∧ smallA f.ats
def smallL (l : List Lay) : Prop := l.length ≤ 1048576 ∧ ∀ i, (l.getD i dL).1.length ≤ 1048576 ∧ (l.getD i dL).2.2.length ≤ 1048576 ∧ ∀ k, smallFe ((l.getD i dL).2.2.getD k dF)

def pthW (p : Nat → Nat × (Nat → List D)) (k : Nat) (n : Int) : Option Int := if n + 1 + ((p k).1 : Int) > 300 then none else some (n + 1 + ((p k).1 : Int))
def muchP (pn : Nat) (p : Nat → Nat × (Nat → List D)) : Bool :=
  match scanO (pthW p) pn 40 0 0 with
  | none => true
  | some _ => decide (pn > 40)

set_option maxHeartbeats 4000000 in
theorem rmuchP_ctr (pn : Nat) (p : Nat → Nat × (Nat → List D)) (h1 : pn ≤ 1048576) (h2 : ∀ k, (p k).1 ≤ 1048576) : Ctr Tryd.prog 19 [.sl 1 pn (pthF p)] (.b (muchP pn p)) := by
  refine r_fun Tryd.func19 rfl Tryd.ntmps19 Tryd.results19 rfl rfl fun X hL hX => ?_
  repeat' (first
    | with_reducible refine t_seq ?_ | with_reducible refine t_region ?_ | with_reducible refine c_nil ?_ | with_reducible refine n_then ?_
    | with_reducible refine t_ret ?_ | with_reducible refine t_skip ?_ | with_reducible refine t_exit ?_ | with_reducible refine t_block ?_
    | with_reducible refine n_block ?_ | with_reducible refine e_then ?_ | with_reducible refine x_then ?_ | with_reducible refine x_block ?_ | with_reducible refine t_draw ?_
    | refine r_val rfl rfl True.intro ?_ | refine r_gskip rfl rfl rfl ?_ | refine r_gskip2 rfl rfl rfl ?_ | refine r_gval rfl rfl rfl rfl True.intro ?_
    | refine t_true rfl ?_ | refine t_false rfl ?_
    | ((first | refine t_cond_d rfl (fun _ => ?_) (fun _ => ?_) | refine t_cond_i rfl (fun _ => ?_) (fun _ => ?_) | refine t_cond_j rfl (fun _ => ?_) (fun _ => ?_) | refine t_cond_s rfl (fun _ => ?_) (fun _ => ?_) | refine t_cond_n rfl (fun _ => ?_) (fun _ => ?_) | refine t_cond rfl (fun _ => ?_) (fun _ => ?_) | refine c_split_d rfl rfl (fun _ => ?_) (fun _ => ?_) | refine c_split_i rfl rfl (fun _ => ?_) (fun _ => ?_) | refine c_split_j rfl rfl (fun _ => ?_) (fun _ => ?_) | refine c_split_s rfl rfl (fun _ => ?_) (fun _ => ?_) | refine c_split_n rfl rfl (fun _ => ?_) (fun _ => ?_)) <;> try (first | contradiction | (exfalso; omega)))
    | refine r_val rfl rfl (by (first | omega | exact Nat.le_of_ble_eq_true rfl | (simp_all; done) | (simp_all; omega) | ((repeat' refine And.intro ?_ ?_) <;> first | omega | rfl | exact Nat.le_refl _ | exact Nat.le_of_ble_eq_true rfl | exact bytesF_one _ | (simp_all; done) | (simp_all; omega)))) ?_ | refine r_gval rfl rfl rfl rfl (by (first | omega | exact Nat.le_of_ble_eq_true rfl | (simp_all; done) | (simp_all; omega) | ((repeat' refine And.intro ?_ ?_) <;> first | omega | rfl | exact Nat.le_refl _ | exact Nat.le_of_ble_eq_true rfl | exact bytesF_one _ | (simp_all; done) | (simp_all; omega)))) ?_
    | refine r_obj rfl rfl (by (first | omega | exact Nat.le_of_ble_eq_true rfl | (simp_all; done) | (simp_all; omega) | ((repeat' refine And.intro ?_ ?_) <;> first | omega | rfl | exact Nat.le_refl _ | exact Nat.le_of_ble_eq_true rfl | exact bytesF_one _ | (simp_all; done) | (simp_all; omega)))) ?_ | refine r_sto rfl (by (first | omega | exact Nat.le_of_ble_eq_true rfl | (simp_all; done) | (simp_all; omega) | ((repeat' refine And.intro ?_ ?_) <;> first | omega | rfl | exact Nat.le_refl _ | exact Nat.le_of_ble_eq_true rfl | exact bytesF_one _ | (simp_all; done) | (simp_all; omega)))) ?_ | refine r_gobj rfl rfl rfl rfl (by (first | omega | exact Nat.le_of_ble_eq_true rfl | (simp_all; done) | (simp_all; omega) | ((repeat' refine And.intro ?_ ?_) <;> first | omega | rfl | exact Nat.le_refl _ | exact Nat.le_of_ble_eq_true rfl | exact bytesF_one _ | (simp_all; done) | (simp_all; omega)))) ?_
    | refine e_hit rfl ?_ | refine e_miss rfl ?_
    | refine ⟨by kernel_rfl, ?_⟩ | refine x_end rfl ?_ | refine n_end rfl ?_ | ((with_reducible refine c_grd ?_); (fail_if_success (refine c_lit true rfl rfl rfl ?_)); (fail_if_success (refine c_lit false rfl rfl rfl ?_)); refine c_split rfl rfl (fun _ => ?_) (fun _ => ?_)))
  refine T.loop hL (fun x : Nat × Int => [(0, .sl 1 pn (pthF p)), (3, .i .i64 x.2), (4, .i .i64 x.1)]) (fun _ => [])
    (fun x => x.1 ≤ 40 ∧ 0 ≤ x.2 ∧ x.2 ≤ 300 ∧ scanO (pthW p) pn 40 x.1 x.2 = scanO (pthW p) pn 40 0 0) (fun x => 40 - x.1) (0, 0) (by simp)
    ⟨⟨rfl, rfl, rfl, trivial⟩, trivial, rfl, by rw [hX]; simp⟩ ?_
  rintro ⟨i, n⟩ ⟨g1, g2, g3, g4⟩
  dsimp only at g1 g2 g3 g4 ⊢
  have hi := h2 i
  unfold muchP
  repeat' (first
    | with_reducible refine t_seq ?_ | with_reducible refine t_region ?_ | with_reducible refine c_nil ?_ | with_reducible refine n_then ?_
    | with_reducible refine t_ret ?_ | with_reducible refine t_skip ?_ | with_reducible refine t_exit ?_ | with_reducible refine t_block ?_
    | with_reducible refine n_block ?_ | with_reducible refine e_then ?_ | with_reducible refine x_then ?_ | with_reducible refine x_block ?_ | with_reducible refine t_draw ?_
    | refine r_val rfl rfl True.intro ?_ | refine r_gskip rfl rfl rfl ?_ | refine r_gskip2 rfl rfl rfl ?_ | refine r_gval rfl rfl rfl rfl True.intro ?_
    | refine t_true rfl ?_ | refine t_false rfl ?_
    | ((first | refine t_cond_d rfl (fun _ => ?_) (fun _ => ?_) | refine t_cond_i rfl (fun _ => ?_) (fun _ => ?_) | refine t_cond_j rfl (fun _ => ?_) (fun _ => ?_) | refine t_cond_s rfl (fun _ => ?_) (fun _ => ?_) | refine t_cond_n rfl (fun _ => ?_) (fun _ => ?_) | refine t_cond rfl (fun _ => ?_) (fun _ => ?_) | refine c_split_d rfl rfl (fun _ => ?_) (fun _ => ?_) | refine c_split_i rfl rfl (fun _ => ?_) (fun _ => ?_) | refine c_split_j rfl rfl (fun _ => ?_) (fun _ => ?_) | refine c_split_s rfl rfl (fun _ => ?_) (fun _ => ?_) | refine c_split_n rfl rfl (fun _ => ?_) (fun _ => ?_)) <;> try (first | contradiction | (exfalso; omega)))
    | refine r_val rfl rfl (by (first | omega | exact Nat.le_of_ble_eq_true rfl | (simp only [Int.toNat_natCast]; (repeat' refine And.intro ?_ ?_) <;> first | omega | rfl | exact Nat.le_refl _))) ?_ | refine r_gval rfl rfl rfl rfl (by (first | omega | exact Nat.le_of_ble_eq_true rfl | (simp only [Int.toNat_natCast]; (repeat' refine And.intro ?_ ?_) <;> first | omega | rfl | exact Nat.le_refl _))) ?_
    | refine r_obj rfl rfl (by (first | omega | exact Nat.le_of_ble_eq_true rfl | (simp only [Int.toNat_natCast]; (repeat' refine And.intro ?_ ?_) <;> first | omega | rfl | exact Nat.le_refl _))) ?_ | refine r_sto rfl (by (first | omega | exact Nat.le_of_ble_eq_true rfl | (simp only [Int.toNat_natCast]; (repeat' refine And.intro ?_ ?_) <;> first | omega | rfl | exact Nat.le_refl _))) ?_ | refine r_gobj rfl rfl rfl rfl (by (first | omega | exact Nat.le_of_ble_eq_true rfl | (simp only [Int.toNat_natCast]; (repeat' refine And.intro ?_ ?_) <;> first | omega | rfl | exact Nat.le_refl _))) ?_
    | refine e_hit rfl ?_ | refine e_miss rfl ?_
    | refine ⟨by kernel_rfl, ?_⟩ | refine x_end rfl ?_ | refine n_end rfl ?_ | ((with_reducible refine c_grd ?_); (fail_if_success (refine c_lit true rfl rfl rfl ?_)); (fail_if_success (refine c_lit false rfl rfl rfl ?_)); refine c_split rfl rfl (fun _ => ?_) (fun _ => ?_)))
  all_goals try simp only [Int.toNat_natCast] at *
  · have e := scanO_stop (step := pthW p) (len := pn) (B := 40) (i := i) (n := n) (by omega) (by omega) (by unfold pthW; rw [if_pos (by omega)])
    rw [← g4, e]
  · exact ⟨(i + 1, n + 1 + ((p i).1 : Int)), ⟨by dsimp only; omega, by dsimp only; omega, by dsimp only; omega, by rw [← g4]; exact (scanO_more (by omega) (by omega) (by unfold pthW; rw [if_neg (by omega)])).symm⟩, by dsimp only; omega, ⟨rfl, rfl, rfl, trivial⟩, trivial, rfl, by rw [hX]; simp⟩
  all_goals
    rw [← g4, scanO_end (fun h => by omega)]
    try (show D.b _ = D.b _; congr 1; rw [Bool.eq_iff_iff]; simp only [decide_eq_true_eq]; omega)

def attW (l : List Att) (m : Nat) (n : Int) : Option Int := some (n + 2 + ((l.getD m dA).1.length : Int) + ((l.getD m dA).2.2.1.length : Int))
def featW (l : List Feat) (k : Nat) (n : Int) : Option Int :=
  if muchP (l.getD k dF).pn (l.getD k dF).pf = true ∨ (l.getD k dF).ats.length > 20 then none else scanO (attW (l.getD k dF).ats) (l.getD k dF).ats.length 20 0 n
def layW (l : List Lay) (i : Nat) (n : Int) : Option Int :=
  match scanO (featW (l.getD i dL).2.2) (l.getD i dL).2.2.length 40 0 (n + ((l.getD i dL).1.length : Int)) with
  | none => none
  | some m => if m > 1500 ∨ (l.getD i dL).2.2.length > 30 then none else some m
def muchL (l : List Lay) : Bool :=
  match scanO (layW l) l.length 12 0 0 with
  | none => true
  | some _ => decide (l.length > 10)

set_option maxHeartbeats 16000000 in
theorem rmuchL_ctr (l : List Lay) (hl : smallL l) : Ctr Tryd.prog 18 [.sl 3 l.length (layF l)] (.b (muchL l)) := by
  refine r_fun Tryd.func18 rfl Tryd.ntmps18 Tryd.results18 rfl rfl fun X hL hX => ?_
  obtain ⟨hl1, hl2⟩ := hl
  obtain ⟨R, hR⟩ : ∃ R, R = muchL l := ⟨_, rfl⟩
  rw [← hR]
  repeat' (first
    | with_reducible refine t_seq ?_ | with_reducible refine t_region ?_ | with_reducible refine c_nil ?_ | with_reducible refine n_then ?_
    | with_reducible refine t_ret ?_ | with_reducible refine t_skip ?_ | with_reducible refine t_exit ?_ | with_reducible refine t_block ?_
    | with_reducible refine n_block ?_ | with_reducible refine e_then ?_ | with_reducible refine x_then ?_ | with_reducible refine x_block ?_ | with_reducible refine t_draw ?_
    | refine r_val rfl rfl True.intro ?_ | refine r_gskip rfl rfl rfl ?_ | refine r_gskip2 rfl rfl rfl ?_ | refine r_gval rfl rfl rfl rfl True.intro ?_
    | refine t_true rfl ?_ | refine t_false rfl ?_
    | ((first | refine t_cond_d rfl (fun _ => ?_) (fun _ => ?_) | refine t_cond_i rfl (fun _ => ?_) (fun _ => ?_) | refine t_cond_j rfl (fun _ => ?_) (fun _ => ?_) | refine t_cond_s rfl (fun _ => ?_) (fun _ => ?_) | refine t_cond_n rfl (fun _ => ?_) (fun _ => ?_) | refine t_cond rfl (fun _ => ?_) (fun _ => ?_) | refine c_split_d rfl rfl (fun _ => ?_) (fun _ => ?_) | refine c_split_i rfl rfl (fun _ => ?_) (fun _ => ?_) | refine c_split_j rfl rfl (fun _ => ?_) (fun _ => ?_) | refine c_split_s rfl rfl (fun _ => ?_) (fun _ => ?_) | refine c_split_n rfl rfl (fun _ => ?_) (fun _ => ?_)) <;> try (first | contradiction | (exfalso; omega)))
    | refine r_val rfl rfl (by (first | omega | exact Nat.le_of_ble_eq_true rfl | (simp_all; done) | (simp_all; omega) | ((repeat' refine And.intro ?_ ?_) <;> first | omega | rfl | exact Nat.le_refl _ | exact Nat.le_of_ble_eq_true rfl | exact bytesF_one _ | (simp_all; done) | (simp_all; omega)))) ?_ | refine r_gval rfl rfl rfl rfl (by (first | omega | exact Nat.le_of_ble_eq_true rfl | (simp_all; done) | (simp_all; omega) | ((repeat' refine And.intro ?_ ?_) <;> first | omega | rfl | exact Nat.le_refl _ | exact Nat.le_of_ble_eq_true rfl | exact bytesF_one _ | (simp_all; done) | (simp_all; omega)))) ?_
    | refine r_obj rfl rfl (by (first | omega | exact Nat.le_of_ble_eq_true rfl | (simp_all; done) | (simp_all; omega) | ((repeat' refine And.intro ?_ ?_) <;> first | omega | rfl | exact Nat.le_refl _ | exact Nat.le_of_ble_eq_true rfl | exact bytesF_one _ | (simp_all; done) | (simp_all; omega)))) ?_ | refine r_sto rfl (by (first | omega | exact Nat.le_of_ble_eq_true rfl | (simp_all; done) | (simp_all; omega) | ((repeat' refine And.intro ?_ ?_) <;> first | omega | rfl | exact Nat.le_refl _ | exact Nat.le_of_ble_eq_true rfl | exact bytesF_one _ | (simp_all; done) | (simp_all; omega)))) ?_ | refine r_gobj rfl rfl rfl rfl (by (first | omega | exact Nat.le_of_ble_eq_true rfl | (simp_all; done) | (simp_all; omega) | ((repeat' refine And.intro ?_ ?_) <;> first | omega | rfl | exact Nat.le_refl _ | exact Nat.le_of_ble_eq_true rfl | exact bytesF_one _ | (simp_all; done) | (simp_all; omega)))) ?_
    | refine e_hit rfl ?_ | refine e_miss rfl ?_
    | refine ⟨by kernel_rfl, ?_⟩ | refine x_end rfl ?_ | refine n_end rfl ?_ | ((with_reducible refine c_grd ?_); (fail_if_success (refine c_lit true rfl rfl rfl ?_)); (fail_if_success (refine c_lit false rfl rfl rfl ?_)); refine c_split rfl rfl (fun _ => ?_) (fun _ => ?_)))
  refine T.loop hL (fun x : Nat × Int => [(0, .sl 3 l.length (layF l)), (3, .i .i64 x.2), (4, .i .i64 x.1)]) (fun _ => [])
    (fun x => x.1 ≤ 12 ∧ 0 ≤ x.2 ∧ x.2 ≤ (x.1 : Int) * 1678771776 ∧ scanO (layW l) l.length 12 x.1 x.2 = scanO (layW l) l.length 12 0 0) (fun x => 12 - x.1) (0, 0) (by simp)
    ⟨⟨rfl, rfl, rfl, trivial⟩, trivial, rfl, by rw [hX]; simp⟩ ?_
  rintro ⟨i, n⟩ ⟨a1, a2, a3, a4⟩
  dsimp only at a1 a2 a3 a4 ⊢
  obtain ⟨i1, i2, i3⟩ := hl2 i
  have stop : i < l.length → i < 12 → layW l i n = none → D.b true = D.b R := fun x y z => by
    have e := scanO_stop (step := layW l) (len := l.length) (B := 12) (i := i) (n := n) x y z
    rw [hR]; unfold muchL; rw [← a4, e]
  have fin : (i < l.length → ¬ i < 12) → D.b (decide (10 < (l.length : Int))) = D.b R := fun x => by
    rw [hR]; unfold muchL; rw [← a4, scanO_end x]
    show D.b _ = D.b _; congr 1; rw [Bool.eq_iff_iff]; simp only [decide_eq_true_eq]; omega
  have more : ∀ m, i < l.length → i < 12 → layW l i n = some m → scanO (layW l) l.length 12 (i + 1) m = scanO (layW l) l.length 12 0 0 := fun m x y z => by rw [← a4]; exact (scanO_more x y z).symm
  clear hl2 hR a4
  repeat' (first
    | with_reducible refine t_seq ?_ | with_reducible refine t_region ?_ | with_reducible refine c_nil ?_ | with_reducible refine n_then ?_
    | with_reducible refine t_ret ?_ | with_reducible refine t_skip ?_ | with_reducible refine t_exit ?_ | with_reducible refine t_block ?_
    | with_reducible refine n_block ?_ | with_reducible refine e_then ?_ | with_reducible refine x_then ?_ | with_reducible refine x_block ?_ | with_reducible refine t_draw ?_
    | refine r_val rfl rfl True.intro ?_ | refine r_gskip rfl rfl rfl ?_ | refine r_gskip2 rfl rfl rfl ?_ | refine r_gval rfl rfl rfl rfl True.intro ?_
    | refine t_true rfl ?_ | refine t_false rfl ?_
    | ((first | refine t_cond_d rfl (fun _ => ?_) (fun _ => ?_) | refine t_cond_i rfl (fun _ => ?_) (fun _ => ?_) | refine t_cond_j rfl (fun _ => ?_) (fun _ => ?_) | refine t_cond_s rfl (fun _ => ?_) (fun _ => ?_) | refine t_cond_n rfl (fun _ => ?_) (fun _ => ?_) | refine t_cond rfl (fun _ => ?_) (fun _ => ?_) | refine c_split_d rfl rfl (fun _ => ?_) (fun _ => ?_) | refine c_split_i rfl rfl (fun _ => ?_) (fun _ => ?_) | refine c_split_j rfl rfl (fun _ => ?_) (fun _ => ?_) | refine c_split_s rfl rfl (fun _ => ?_) (fun _ => ?_) | refine c_split_n rfl rfl (fun _ => ?_) (fun _ => ?_)) <;> try (first | contradiction | (exfalso; omega)))
    | refine r_val rfl rfl (by (first | omega | exact Nat.le_of_ble_eq_true rfl | (simp only [Int.toNat_natCast] at *; (repeat' refine And.intro ?_ ?_) <;> first | omega | rfl | exact Nat.le_refl _))) ?_ | refine r_gval rfl rfl rfl rfl (by (first | omega | exact Nat.le_of_ble_eq_true rfl | (simp only [Int.toNat_natCast] at *; (repeat' refine And.intro ?_ ?_) <;> first | omega | rfl | exact Nat.le_refl _))) ?_
    | refine r_obj rfl rfl (by (first | omega | exact Nat.le_of_ble_eq_true rfl | (simp only [Int.toNat_natCast] at *; (repeat' refine And.intro ?_ ?_) <;> first | omega | rfl | exact Nat.le_refl _))) ?_ | refine r_sto rfl (by (first | omega | exact Nat.le_of_ble_eq_true rfl | (simp only [Int.toNat_natCast] at *; (repeat' refine And.intro ?_ ?_) <;> first | omega | rfl | exact Nat.le_refl _))) ?_ | refine r_gobj rfl rfl rfl rfl (by (first | omega | exact Nat.le_of_ble_eq_true rfl | (simp only [Int.toNat_natCast] at *; (repeat' refine And.intro ?_ ?_) <;> first | omega | rfl | exact Nat.le_refl _))) ?_
    | refine e_hit rfl ?_ | refine e_miss rfl ?_
    | refine ⟨by kernel_rfl, ?_⟩ | refine x_end rfl ?_ | refine n_end rfl ?_ | ((with_reducible refine c_grd ?_); (fail_if_success (refine c_lit true rfl rfl rfl ?_)); (fail_if_success (refine c_lit false rfl rfl rfl ?_)); refine c_split rfl rfl (fun _ => ?_) (fun _ => ?_)))
  · refine T.loop hL (fun x : Nat × Int => [(0, .sl 3 l.length (layF l)), (3, .i .i64 x.2), (4, .i .i64 i), (5, .i .i64 x.1)]) (fun _ => [])
      (fun x => x.1 ≤ 40 ∧ 0 ≤ x.2 ∧ x.2 ≤ (i : Int) * 1678771776 + 1048576 + (x.1 : Int) * 41943080 ∧ scanO (featW (l.getD i dL).2.2) (l.getD i dL).2.2.length 40 x.1 x.2 = scanO (featW (l.getD i dL).2.2) (l.getD i dL).2.2.length 40 0 (n + ((l.getD i dL).1.length : Int)))
      (fun x => 40 - x.1) (0, n + ((l.getD i dL).1.length : Int)) (by dsimp only; refine ⟨by omega, by omega, by omega, rfl⟩)
      ⟨⟨rfl, rfl, rfl, rfl, trivial⟩, trivial, rfl, by rw [hX]; simp⟩ ?_
    rintro ⟨k, m⟩ ⟨b1, b2, b3, b4⟩
    dsimp only at b1 b2 b3 b4 ⊢
    obtain ⟨f1, f2, f3, f4⟩ := i3 k
    have hmp := rmuchP_ctr ((l.getD i dL).2.2.getD k dF).pn ((l.getD i dL).2.2.getD k dF).pf f1 f2
    have stop2 : k < (l.getD i dL).2.2.length → k < 40 → featW (l.getD i dL).2.2 k m = none → i < l.length → i < 12 → D.b true = D.b R := fun x y z u v => by
      have e := scanO_stop (step := featW (l.getD i dL).2.2) (len := (l.getD i dL).2.2.length) (B := 40) (i := k) (n := m) x y z
      exact stop u v (by unfold layW; rw [← b4, e])
    have more2 : ∀ m2, k < (l.getD i dL).2.2.length → k < 40 → featW (l.getD i dL).2.2 k m = some m2 → scanO (featW (l.getD i dL).2.2) (l.getD i dL).2.2.length 40 (k + 1) m2 = scanO (featW (l.getD i dL).2.2) (l.getD i dL).2.2.length 40 0 (n + ((l.getD i dL).1.length : Int)) := fun m2 x y z => by rw [← b4]; exact (scanO_more x y z).symm
    have fin2 : (k < (l.getD i dL).2.2.length → ¬ k < 40) → layW l i n = if m > 1500 ∨ (l.getD i dL).2.2.length > 30 then none else some m := fun x => by
      unfold layW; rw [← b4, scanO_end x]
    have hfw : featW (l.getD i dL).2.2 k m = if muchP ((l.getD i dL).2.2.getD k dF).pn ((l.getD i dL).2.2.getD k dF).pf = true ∨ ((l.getD i dL).2.2.getD k dF).ats.length > 20 then none else scanO (attW ((l.getD i dL).2.2.getD k dF).ats) ((l.getD i dL).2.2.getD k dF).ats.length 20 0 m := rfl
    clear i3 b4
    generalize muchP ((l.getD i dL).2.2.getD k dF).pn ((l.getD i dL).2.2.getD k dF).pf = mp at hmp hfw
    repeat' (first
      | with_reducible refine t_seq ?_ | with_reducible refine t_region ?_ | with_reducible refine c_nil ?_ | with_reducible refine n_then ?_
      | with_reducible refine t_ret ?_ | with_reducible refine t_skip ?_ | with_reducible refine t_exit ?_ | with_reducible refine t_block ?_
      | with_reducible refine n_block ?_ | with_reducible refine e_then ?_ | with_reducible refine x_then ?_ | with_reducible refine x_block ?_ | with_reducible refine t_draw ?_
      | refine r_val rfl rfl True.intro ?_ | refine r_gskip rfl rfl rfl ?_ | refine r_gskip2 rfl rfl rfl ?_ | refine r_gval rfl rfl rfl rfl True.intro ?_
      | refine t_true rfl ?_ | refine t_false rfl ?_
      | ((first | refine t_cond_d rfl (fun _ => ?_) (fun _ => ?_) | refine t_cond_i rfl (fun _ => ?_) (fun _ => ?_) | refine t_cond_j rfl (fun _ => ?_) (fun _ => ?_) | refine t_cond_s rfl (fun _ => ?_) (fun _ => ?_) | refine t_cond_n rfl (fun _ => ?_) (fun _ => ?_) | refine t_cond rfl (fun _ => ?_) (fun _ => ?_) | refine c_split_d rfl rfl (fun _ => ?_) (fun _ => ?_) | refine c_split_i rfl rfl (fun _ => ?_) (fun _ => ?_) | refine c_split_j rfl rfl (fun _ => ?_) (fun _ => ?_) | refine c_split_s rfl rfl (fun _ => ?_) (fun _ => ?_) | refine c_split_n rfl rfl (fun _ => ?_) (fun _ => ?_)) <;> try (first | contradiction | (exfalso; omega)))
      | refine r_val rfl rfl (by (first | omega | exact Nat.le_of_ble_eq_true rfl | (simp only [Int.toNat_natCast] at *; (repeat' refine And.intro ?_ ?_) <;> first | omega | rfl | exact Nat.le_refl _))) ?_ | refine r_gval rfl rfl rfl rfl (by (first | omega | exact Nat.le_of_ble_eq_true rfl | (simp only [Int.toNat_natCast] at *; (repeat' refine And.intro ?_ ?_) <;> first | omega | rfl | exact Nat.le_refl _))) ?_
      | refine r_obj rfl rfl (by (first | omega | exact Nat.le_of_ble_eq_true rfl | (simp only [Int.toNat_natCast] at *; (repeat' refine And.intro ?_ ?_) <;> first | omega | rfl | exact Nat.le_refl _))) ?_ | refine r_sto rfl (by (first | omega | exact Nat.le_of_ble_eq_true rfl | (simp only [Int.toNat_natCast] at *; (repeat' refine And.intro ?_ ?_) <;> first | omega | rfl | exact Nat.le_refl _))) ?_ | refine r_gobj rfl rfl rfl rfl (by (first | omega | exact Nat.le_of_ble_eq_true rfl | (simp only [Int.toNat_natCast] at *; (repeat' refine And.intro ?_ ?_) <;> first | omega | rfl | exact Nat.le_refl _))) ?_
      | refine e_hit rfl ?_ | refine e_miss rfl ?_
      | refine ⟨by kernel_rfl, ?_⟩ | refine x_end rfl ?_ | refine n_end rfl ?_ | refine r_call (f := 19) rfl rfl Tryd.call19 rfl hmp ?_ | ((with_reducible refine c_grd ?_); (fail_if_success (refine c_lit true rfl rfl rfl ?_)); (fail_if_success (refine c_lit false rfl rfl rfl ?_)); refine c_split rfl rfl (fun _ => ?_) (fun _ => ?_)))
    all_goals try simp only [Int.toNat_natCast] at *
    all_goals try (exact stop2 (by omega) (by omega) (by rw [hfw]; exact if_pos (.inl (by assumption))) (by omega) (by omega))
    all_goals try (exact stop2 (by omega) (by omega) (by rw [hfw]; exact if_pos (.inr (by omega))) (by omega) (by omega))
    · have hmpf : ¬ (mp = true) := by simp [*]
      refine T.loop hL (fun x : Nat × Int => [(0, .sl 3 l.length (layF l)), (3, .i .i64 x.2), (4, .i .i64 i), (5, .i .i64 k), (6, .pv 6 0), (7, .i .i64 x.1)])
        (fun _ => [(6, .var [.b ((l.getD i dL).2.2.getD k dF).hid, .i .u64 ((l.getD i dL).2.2.getD k dF).id, .i .i64 ((l.getD i dL).2.2.getD k dF).ty, .sl 1 ((l.getD i dL).2.2.getD k dF).pn (pthF ((l.getD i dL).2.2.getD k dF).pf), .sl 4 ((l.getD i dL).2.2.getD k dF).ats.length (attF ((l.getD i dL).2.2.getD k dF).ats)])])
        (fun x => x.1 ≤ ((l.getD i dL).2.2.getD k dF).ats.length ∧ 0 ≤ x.2 ∧ x.2 ≤ m + (x.1 : Int) * 2097154 ∧ scanO (attW ((l.getD i dL).2.2.getD k dF).ats) ((l.getD i dL).2.2.getD k dF).ats.length 20 x.1 x.2 = scanO (attW ((l.getD i dL).2.2.getD k dF).ats) ((l.getD i dL).2.2.getD k dF).ats.length 20 0 m)
        (fun x => ((l.getD i dL).2.2.getD k dF).ats.length - x.1) (0, m) (by dsimp only; refine ⟨by omega, by omega, by omega, rfl⟩)
        ⟨⟨rfl, rfl, rfl, rfl, rfl, rfl, trivial⟩, ⟨rfl, trivial⟩, rfl, by rw [hX]; simp⟩ ?_
      rintro ⟨q, u⟩ ⟨c1, c2, c3, c4⟩
      dsimp only at c1 c2 c3 c4 ⊢
      obtain ⟨e1, e2⟩ := f4 q
      clear f4 stop stop2 fin fin2 more hmp
      repeat' (first
        | with_reducible refine t_seq ?_ | with_reducible refine t_region ?_ | with_reducible refine c_nil ?_ | with_reducible refine n_then ?_
        | with_reducible refine t_ret ?_ | with_reducible refine t_skip ?_ | with_reducible refine t_exit ?_ | with_reducible refine t_block ?_
        | with_reducible refine n_block ?_ | with_reducible refine e_then ?_ | with_reducible refine x_then ?_ | with_reducible refine x_block ?_ | with_reducible refine t_draw ?_
        | refine r_val rfl rfl True.intro ?_ | refine r_gskip rfl rfl rfl ?_ | refine r_gskip2 rfl rfl rfl ?_ | refine r_gval rfl rfl rfl rfl True.intro ?_
        | refine t_true rfl ?_ | refine t_false rfl ?_
        | ((first | refine t_cond_d rfl (fun _ => ?_) (fun _ => ?_) | refine t_cond_i rfl (fun _ => ?_) (fun _ => ?_) | refine t_cond_j rfl (fun _ => ?_) (fun _ => ?_) | refine t_cond_s rfl (fun _ => ?_) (fun _ => ?_) | refine t_cond_n rfl (fun _ => ?_) (fun _ => ?_) | refine t_cond rfl (fun _ => ?_) (fun _ => ?_) | refine c_split_d rfl rfl (fun _ => ?_) (fun _ => ?_) | refine c_split_i rfl rfl (fun _ => ?_) (fun _ => ?_) | refine c_split_j rfl rfl (fun _ => ?_) (fun _ => ?_) | refine c_split_s rfl rfl (fun _ => ?_) (fun _ => ?_) | refine c_split_n rfl rfl (fun _ => ?_) (fun _ => ?_)) <;> try (first | contradiction | (exfalso; omega)))
        | refine r_val rfl rfl (by (first | omega | exact Nat.le_of_ble_eq_true rfl | (simp only [Int.toNat_natCast] at *; (repeat' refine And.intro ?_ ?_) <;> first | omega | rfl | exact Nat.le_refl _))) ?_ | refine r_gval rfl rfl rfl rfl (by (first | omega | exact Nat.le_of_ble_eq_true rfl | (simp only [Int.toNat_natCast] at *; (repeat' refine And.intro ?_ ?_) <;> first | omega | rfl | exact Nat.le_refl _))) ?_
        | refine r_obj rfl rfl (by (first | omega | exact Nat.le_of_ble_eq_true rfl | (simp only [Int.toNat_natCast] at *; (repeat' refine And.intro ?_ ?_) <;> first | omega | rfl | exact Nat.le_refl _))) ?_ | refine r_sto rfl (by (first | omega | exact Nat.le_of_ble_eq_true rfl | (simp only [Int.toNat_natCast] at *; (repeat' refine And.intro ?_ ?_) <;> first | omega | rfl | exact Nat.le_refl _))) ?_ | refine r_gobj rfl rfl rfl rfl (by (first | omega | exact Nat.le_of_ble_eq_true rfl | (simp only [Int.toNat_natCast] at *; (repeat' refine And.intro ?_ ?_) <;> first | omega | rfl | exact Nat.le_refl _))) ?_
        | refine e_hit rfl ?_ | refine e_miss rfl ?_
        | refine ⟨by kernel_rfl, ?_⟩ | refine x_end rfl ?_ | refine n_end rfl ?_ | ((with_reducible refine c_grd ?_); (fail_if_success (refine c_lit true rfl rfl rfl ?_)); (fail_if_success (refine c_lit false rfl rfl rfl ?_)); refine c_split rfl rfl (fun _ => ?_) (fun _ => ?_)))
      all_goals try simp only [Int.toNat_natCast] at *
      · exact ⟨(q + 1, u + 2 + ((((l.getD i dL).2.2.getD k dF).ats.getD q dA).1.length : Int) + ((((l.getD i dL).2.2.getD k dF).ats.getD q dA).2.2.1.length : Int)), ⟨by dsimp only; omega, by dsimp only; omega, by dsimp only; omega, by rw [← c4]; exact (scanO_more (by omega) (by omega) rfl).symm⟩, by dsimp only; omega, ⟨rfl, rfl, rfl, rfl, rfl, rfl, trivial⟩, ⟨rfl, trivial⟩, rfl, by rw [hX]; simp⟩
      · have e : scanO (attW ((l.getD i dL).2.2.getD k dF).ats) ((l.getD i dL).2.2.getD k dF).ats.length 20 0 m = some u := by rw [← c4]; exact scanO_end (fun h => by omega)
        exact ⟨(k + 1, u), ⟨by dsimp only; omega, by dsimp only; omega, by dsimp only; omega, more2 u (by omega) (by omega) (by rw [hfw, if_neg (fun h => h.elim hmpf (fun h => by omega))]; exact e)⟩, by dsimp only; omega, ⟨rfl, rfl, rfl, rfl, trivial⟩, trivial, rfl, by rw [hX]; simp⟩
    all_goals
      have hfin := fin2 (fun h => by omega)
      first
        | exact stop (by omega) (by omega) (by rw [hfin]; exact if_pos (by omega))
        | exact ⟨(i + 1, m), ⟨by dsimp only; omega, by dsimp only; omega, by dsimp only; omega, more m (by omega) (by omega) (by rw [hfin]; exact if_neg (by omega))⟩, by dsimp only; omega, ⟨rfl, rfl, rfl, trivial⟩, trivial, rfl, by rw [hX]; simp⟩
  all_goals exact fin (fun h => by omega)

end Go.Proofs.YtinjdlckhmkmaaaDoor.Flow

/- UTF: UtfQuotes' function. -/
namespace Go.Proofs.YtinjdlckhmkmaaaDoor.Flow
open Go

theorem quoteL_len (s : List UInt8) : (quoteL s).length ≤ 6 * s.length + 2 := by
  have := qL_len s
  unfold quoteL
  split
  · simp
    omega
  · simp

end Go.Proofs.YtinjdlckhmkmaaaDoor.Flow

/- REPORT: features as texts, by both. -/
namespace Go.Proofs.YtinjdlckhmkmaaaDoor.Flow
open Go

/-- A feature, its points told one by one. -/
structure FeatR where
  hid : Bool
  id : Nat
  ty : Int
  paths : List (List (Int × Int))
  ats : List Att

def dFR : FeatR := ⟨false, 0, 0, [], []⟩
def toF (f : FeatR) : Feat := ⟨f.hid, f.id, f.ty, f.paths.length, fun k => ((f.paths.getD k []).length, ptF (f.paths.getD k [])), f.ats⟩

def pgF (p : List (List (Int × Int))) : Nat → List D := pthF fun k => ((p.getD k []).length, ptF (p.getD k []))
def featC (f : FeatR) : List D := [.b f.hid, .i .u64 (f.id : Nat), .i .i64 f.ty, .sl 1 f.paths.length (pgF f.paths), .sl 4 f.ats.length (attF f.ats)]

def parT (p : List (Int × Int)) : List UInt8 := [[40], pathT p, [41]].flatten
def attT (a : Att) : List UInt8 := [quoteL a.1, [61], valT a.2.1 a.2.2.1 a.2.2.2.toNat].flatten
def nameT (ty : Int) : List UInt8 := if ty = 1 then [112, 111, 105, 110, 116] else if ty = 2 then [108, 105, 110, 101] else if ty = 3 then [112, 111, 108, 121, 103, 111, 110] else [63]
def headL (f : FeatR) : List (List UInt8) := if f.hid = true then [nameT f.ty, [105, 100], Lib.decDigits f.id] else [nameT f.ty]
def featT (f : FeatR) : List UInt8 := Lib.join (headL f ++ f.paths.map parT ++ f.ats.map attT) [32]

structure FeatOk (f : FeatR) : Prop where
  id : f.id < 18446744073709551616
  np : f.paths.length ≤ 64
  ps : ∀ i, ptsOk (f.paths.getD i []) ∧ (f.paths.getD i []).length ≤ 1000
  na : f.ats.length ≤ 64
  aso : ∀ i, (f.ats.getD i dA).1.length ≤ 1048576 ∧ (f.ats.getD i dA).2.2.1.length ≤ 1048576 ∧ 0 ≤ (f.ats.getD i dA).2.2.2 ∧ (f.ats.getD i dA).2.2.2 < 18446744073709551616

/-- Texts in a row that a literal began. -/
def chF (l : List (List UInt8)) : Nat → List D := chunk 1 (l.map D.s)

theorem chF_get (l : List (List UInt8)) (i : Nat) : chF l i = if i < l.length then [.s (l.getD i [])] else [] := by
  by_cases h : i < l.length
  · rw [if_pos h]
    exact chunk_tx l i h
  · rw [if_neg h]
    unfold chF chunk
    rw [List.drop_eq_nil_of_le (by simp; omega)]
    rfl

theorem chF_cat (l m : List (List UInt8)) (g : Nat → List D) (hg : ∀ i, i < m.length → g i = [.s (m.getD i [])]) : catF l.length (chF l) m.length g = chF (l ++ m) := by
  funext j
  rw [chF_get]
  unfold catF
  by_cases h : j < l.length
  · rw [if_pos h, if_pos (by simp; omega), chF_get, if_pos h]
    simp [List.getD_eq_getElem?_getD, h, List.getElem?_append_left]
  · rw [if_neg h]
    by_cases h2 : j < l.length + m.length
    · rw [if_pos h2, if_pos (by simpa using h2), hg _ (by omega)]
      simp [List.getD_eq_getElem?_getD, List.getElem?_append_right (show l.length ≤ j by omega)]
    · rw [if_neg h2, if_neg (by simpa using h2), chF_get, if_neg h]

theorem gc_snoc (k n : Nat) (l l2 : List (List UInt8)) (x : List UInt8) (g : Nat → List D) (hn : n = l.length) (hg : g 0 = [.s x]) (h2 : l2 = l ++ [x]) : D.gs k 1 (n + 1) (catF n (chF l) 1 g) = D.gs k 1 (n + 1) (chF l2) := by
  subst h2
  subst hn
  have := chF_cat l [x] g fun i hi => by
    obtain rfl : i = 0 := by simpa using hi
    exact hg
  rw [show ([x] : List (List UInt8)).length = 1 from rfl] at this
  rw [this]

theorem takeM_snoc {α β : Type} (f : α → β) (l : List α) (d : α) {i : Nat} (h : i < l.length) : (l.map f).take (i + 1) = (l.map f).take i ++ [f (l.getD i d)] := by
  rw [List.take_add_one]
  simp [List.getElem?_map, List.getD_eq_getElem?_getD, h]

/-! ### How long the pieces are -/
theorem parT_len {p : List (Int × Int)} (h : ptsOk p) (h2 : p.length ≤ 1000) : (parT p).length ≤ 50000 := by
  have := pathT_len h
  unfold parT
  simp only [List.flatten_cons, List.flatten_nil, List.length_append, List.length_cons, List.length_nil]
  omega

theorem keyF_len (k : Int) (s : List UInt8) (b : Nat) (hs : s.length ≤ 1048576) (hb : b < 18446744073709551616) (h2 : ¬ k = 2) (h3 : ¬ k = 3) : (keyF k s (validL s) b).1.length ≤ 1048576 := by
  have hd : (Lib.decDigits b).length ≤ 20 := dec_len b 20 (by have : (10 : Nat) ^ 20 = 100000000000000000000 := by decide
                                                              omega) (by omega)
  by_cases hv : valR k (validL s) b = false
  · rw [keyF_bad hv]
    simp
  · by_cases k1 : k = 1
    · subst k1
      rw [keyF_1 hv]
      exact hs
    by_cases k5 : k = 5
    · subst k5
      rw [keyF_5 hv]
      dsimp only
      omega
    by_cases k7 : k = 7
    · subst k7
      rw [keyF_7 hv]
      dsimp only
      split <;> simp
    · rw [keyF_0 hv k1 h2 h3 k5 k7]
      obtain ⟨_, i2, i3⟩ := i64F_wrap hb
      have := itoa_lenI _ i2 i3
      dsimp only
      omega

theorem valT_len (k : Int) (s : List UInt8) (b : Nat) (hs : s.length ≤ 1048576) (hb : b < 18446744073709551616) : (valT k s b).length ≤ 6291458 := by
  by_cases hv : valR k (validL s) b = false
  · rw [valT_bad hv]
    simp
  · by_cases k1 : k = 1
    · subst k1
      rw [valT_1 hv]
      have := quoteL_len s
      omega
    by_cases k2 : k = 2
    · subst k2
      rw [valT_2 hv, List.length_append, hxL_len]
      simp
    by_cases k3 : k = 3
    · subst k3
      rw [valT_3 hv, List.length_append, hxL_len]
      simp
    · rw [valT_0 hv k1 k2 k3]
      have := keyF_len k s b hs hb k2 k3
      omega

theorem attT_len {a : Att} (h1 : a.1.length ≤ 1048576) (h2 : a.2.2.1.length ≤ 1048576) (h3 : 0 ≤ a.2.2.2) (h4 : a.2.2.2 < 18446744073709551616) : (attT a).length ≤ 12582920 := by
  have := quoteL_len a.1
  have := valT_len a.2.1 a.2.2.1 a.2.2.2.toNat h2 (by omega)
  unfold attT
  simp only [List.flatten_cons, List.flatten_nil, List.length_append, List.length_cons, List.length_nil]
  omega

theorem nameT_len (ty : Int) : (nameT ty).length ≤ 7 := by
  unfold nameT
  split
  · simp
  · split
    · simp
    · split <;> simp

theorem headL_len {f : FeatR} (h : FeatOk f) : 1 ≤ (headL f).length ∧ (headL f).length ≤ 3 ∧ ∀ x ∈ headL f, x.length ≤ 12582920 := by
  have h1 := nameT_len f.ty
  have hd : (Lib.decDigits f.id).length ≤ 20 := dec_len f.id 20 (by have : (10 : Nat) ^ 20 = 100000000000000000000 := by decide
                                                                    have := h.id
                                                                    omega) (by omega)
  unfold headL
  split
  · refine ⟨by simp, by simp, fun x hx => ?_⟩
    simp only [List.mem_cons, List.not_mem_nil, or_false] at hx
    rcases hx with rfl | rfl | rfl
    · omega
    · simp
    · omega
  · refine ⟨by simp, by simp, fun x hx => ?_⟩
    simp only [List.mem_cons, List.not_mem_nil, or_false] at hx
    subst hx
    omega

theorem paths_mem {f : FeatR} (h : FeatOk f) : ∀ x ∈ f.paths.map parT, x.length ≤ 12582920 := fun x hx => by
  obtain ⟨p, hp, rfl⟩ := List.mem_map.1 hx
  obtain ⟨i, hi, rfl⟩ := List.getElem_of_mem hp
  have h2 := h.ps i
  rw [List.getD_eq_getElem?_getD, List.getElem?_eq_getElem hi, Option.getD_some] at h2
  have := parT_len h2.1 h2.2
  omega

theorem atts_mem {f : FeatR} (h : FeatOk f) : ∀ x ∈ f.ats.map attT, x.length ≤ 12582920 := fun x hx => by
  obtain ⟨p, hp, rfl⟩ := List.mem_map.1 hx
  obtain ⟨i, hi, rfl⟩ := List.getElem_of_mem hp
  have h2 := h.aso i
  rw [List.getD_eq_getElem?_getD, List.getElem?_eq_getElem hi, Option.getD_some] at h2
  exact attT_len h2.1 h2.2.1 h2.2.2.1 h2.2.2.2

/-- The text of so many pieces. -/
theorem part_len {f : FeatR} (h : FeatOk f) (i k : Nat) : (Lib.join (headL f ++ (f.paths.map parT).take i ++ (f.ats.map attT).take k) [32]).length ≤ 2147483648 := by
  obtain ⟨_, h1, h2⟩ := headL_len h
  have h3 := join_len_le [32] 12582920 (headL f ++ (f.paths.map parT).take i ++ (f.ats.map attT).take k) fun x hx => by
    rw [List.mem_append, List.mem_append] at hx
    rcases hx with (hx | hx) | hx
    · exact h2 x hx
    · exact paths_mem h x (List.mem_of_mem_take hx)
    · exact atts_mem h x (List.mem_of_mem_take hx)
  have h4 : (headL f ++ (f.paths.map parT).take i ++ (f.ats.map attT).take k).length ≤ 131 := by
    have := h.np
    have := h.na
    simp only [List.length_append, List.length_take, List.length_map]
    omega
  have h5 : (headL f ++ (f.paths.map parT).take i ++ (f.ats.map attT).take k).length * (12582920 + [(32 : UInt8)].length) ≤ 131 * 12582921 := Nat.mul_le_mul_right _ h4
  omega

theorem featT_len {f : FeatR} (h : FeatOk f) : (featT f).length ≤ 2147483648 := by
  have := part_len h f.paths.length f.ats.length
  rwa [List.take_of_length_le (by simp), List.take_of_length_le (by simp)] at this

theorem name_at {ty : Int} (h1 : 1 ≤ ty) (h2 : ty ≤ 3) : chF [[112, 111, 105, 110, 116], [108, 105, 110, 101], [112, 111, 108, 121, 103, 111, 110]] (ty - 1).toNat = [.s (nameT ty)] := by
  rcases (show ty = 1 ∨ ty = 2 ∨ ty = 3 by omega) with rfl | rfl | rfl <;> rfl
theorem rname_at {ty : Int} (h1 : 1 ≤ ty) (h2 : ty ≤ 3) : chF [[], [112, 111, 105, 110, 116], [108, 105, 110, 101], [112, 111, 108, 121, 103, 111, 110]] ty.toNat = [.s (nameT ty)] := by
  rcases (show ty = 1 ∨ ty = 2 ∨ ty = 3 by omega) with rfl | rfl | rfl <;> rfl
theorem name_no {ty : Int} (h : ¬ (1 ≤ ty ∧ ty ≤ 3)) : nameT ty = [63] := by
  unfold nameT
  rw [if_neg (by omega), if_neg (by omega), if_neg (by omega)]

section
variable {X : Ctx} {n : Nat} {all rest : List Oper} {fr : Fr} {ow : Ow} {tr : List (List Nat × List Nat)} {K : Fr → Ow → List (List Nat × List Nat) → Prop}
/-- A cell that is known by a law. -/
theorem r_ldrf {t : Nat} {ty ty' : TypeId} {x : Operand} {ps : String} {af : Array Edge} {cs : List D} (d : D) (hx : ev fr x = .rf cs 0) (hz : B.sz ty = some (1, false)) (hcs : cs = [d]) (hn : Nat.blt t n = true)
    (h : CT Tryd.prog X n all rest ((t, d) :: fr) ow (tr ++ [([], [])]) K) : CT Tryd.prog X n all (⟨some t, .load ty x, ty', ps, af, none⟩ :: rest) fr ow tr K := by
  refine r_val (d := d) (p := partP (1, false) cs 0) (rd := []) ?_ hn ?_ h
  · show loadD B _ ty (ev fr x) = _
    rw [hx, hcs]
    unfold loadD
    rw [hz]
    exact fz_eq _ _
  · subst hcs
    exact Nat.le_refl 1
end

end Go.Proofs.YtinjdlckhmkmaaaDoor.Flow

/- REPORT: features as texts: the program's function, and the reference's. -/
namespace Go.Proofs.YtinjdlckhmkmaaaDoor.Flow
open Go

theorem gh_two (k : Nat) (l : List (List UInt8)) (a b : List UInt8) (n : Nat) (g : Nat → List D) (hn : n = l.length) (h0 : g 0 = [.s a]) (h1 : g 1 = [.s b]) : D.gs k 1 (n + 2) (catF n (chF l) 2 g) = D.gs k 1 (n + 2) (chF (l ++ [a, b])) := by
  subst hn
  have := chF_cat l [a, b] g fun i hi => by
    match i, hi with
    | 0, _ => exact h0
    | 1, _ => exact h1
  rw [show ([a, b] : List (List UInt8)).length = 2 from rfl] at this
  rw [this]

theorem join_more (l : List (List UInt8)) (x sep : List UInt8) (h : 1 ≤ l.length) : Lib.join (l ++ [x]) sep = Lib.join l sep ++ sep ++ x := by
  rw [join_snoc, if_neg (fun h2 => by subst h2; simp at h)]

set_option maxRecDepth 100000 in
set_option maxHeartbeats 8000000 in
theorem feature_ctr (f : FeatR) (hf : FeatOk f) : Ctr Tryd.prog 20 [.ag (featC f)] (.s (featT f)) := by
  have hlen := featT_len hf
  have cb := rbig_ctr f.id hf.id
  have hH : f.hid = true → headL f = [nameT f.ty] ++ [[105, 100], Lib.decDigits f.id] := fun h => if_pos h
  have hH0 : f.hid = false → headL f = [nameT f.ty] := fun h => if_neg (by rw [h]; decide)
  have hn1 : (1 ≤ f.ty ∧ f.ty ≤ 3) → chF [[112, 111, 105, 110, 116], [108, 105, 110, 101], [112, 111, 108, 121, 103, 111, 110]] (f.ty - 1).toNat = [.s (nameT f.ty)] := fun h => name_at h.1 h.2
  have hn2 : ¬ (1 ≤ f.ty ∧ f.ty ≤ 3) → nameT f.ty = [63] := name_no
  obtain ⟨hl1, hl2, _⟩ := headL_len hf
  have hp := fun i => path_ctrR _ (hf.ps i).1
  have hpt := fun i : Nat => fun c4 => rtext_ctrR [[40], pathT (f.paths.getD i []), [41]] 3 (chF [[40], pathT (f.paths.getD i []), [41]]) rfl (chunk_tx _) (by simp) c4
  have hpl := fun i : Nat => parT_len (hf.ps i).1 (hf.ps i).2
  have hnp := hf.np
  have hna := hf.na
  refine r_fun Tryd.func20 rfl Tryd.ntmps20 Tryd.results20 rfl rfl fun X hL hX => ?_
  repeat' (first
    | refine r_ldrf (.s (nameT f.ty)) rfl rfl (hn1 (by omega)) rfl ?_ | refine r_mid 2 hL (fun _ : Unit => [(1, .pv 1 0), (3, .s (nameT f.ty))]) (fun _ => [(1, .var (featC f))]) (fun _ => True) ?_ ?_
    | with_reducible refine t_seq ?_ | with_reducible refine t_region ?_ | with_reducible refine c_nil ?_ | with_reducible refine n_then ?_
    | with_reducible refine t_ret ?_ | with_reducible refine t_skip ?_ | with_reducible refine t_exit ?_ | with_reducible refine t_block ?_
    | with_reducible refine n_block ?_ | with_reducible refine e_then ?_ | with_reducible refine x_then ?_ | with_reducible refine x_block ?_ | with_reducible refine t_draw ?_
    | refine r_val rfl rfl True.intro ?_ | refine r_gskip rfl rfl rfl ?_ | refine r_gskip2 rfl rfl rfl ?_ | refine r_gval rfl rfl rfl rfl True.intro ?_
    | refine t_true rfl ?_ | refine t_false rfl ?_
    | ((first | refine t_cond_d rfl (fun _ => ?_) (fun _ => ?_) | refine t_cond_i rfl (fun _ => ?_) (fun _ => ?_) | refine t_cond_j rfl (fun _ => ?_) (fun _ => ?_) | refine t_cond_s rfl (fun _ => ?_) (fun _ => ?_) | refine t_cond_n rfl (fun _ => ?_) (fun _ => ?_) | refine t_cond rfl (fun _ => ?_) (fun _ => ?_) | refine c_split_d rfl rfl (fun _ => ?_) (fun _ => ?_) | refine c_split_i rfl rfl (fun _ => ?_) (fun _ => ?_) | refine c_split_j rfl rfl (fun _ => ?_) (fun _ => ?_) | refine c_split_s rfl rfl (fun _ => ?_) (fun _ => ?_) | refine c_split_n rfl rfl (fun _ => ?_) (fun _ => ?_)) <;> try (first | (rename_i hz; exact Bool.noConfusion (show true = false from hz)) | (rename_i hz; exact Bool.noConfusion (show false = true from hz)) | (exfalso; omega)))
    | refine r_val rfl rfl (by (first | omega | exact Nat.le_of_ble_eq_true rfl | (simp only [wrap_u8, IntKind.wrap_i64, IntKind.wrap_i32, wrap_u32', wrap_u64', InI]; (repeat' refine And.intro ?_ ?_) <;> omega) | ((repeat' refine And.intro ?_ ?_) <;> first | omega | rfl | exact Nat.le_refl _ | exact Nat.le_of_ble_eq_true rfl | exact bytesF_one _) | (simp_all; done) | (simp_all; omega))) ?_ | refine r_gval rfl rfl rfl rfl (by (first | omega | exact Nat.le_of_ble_eq_true rfl | (simp only [wrap_u8, IntKind.wrap_i64, IntKind.wrap_i32, wrap_u32', wrap_u64', InI]; (repeat' refine And.intro ?_ ?_) <;> omega) | ((repeat' refine And.intro ?_ ?_) <;> first | omega | rfl | exact Nat.le_refl _ | exact Nat.le_of_ble_eq_true rfl | exact bytesF_one _) | (simp_all; done) | (simp_all; omega))) ?_
    | refine r_obj rfl rfl (by (first | omega | exact Nat.le_of_ble_eq_true rfl | (simp only [wrap_u8, IntKind.wrap_i64, IntKind.wrap_i32, wrap_u32', wrap_u64', InI]; (repeat' refine And.intro ?_ ?_) <;> omega) | ((repeat' refine And.intro ?_ ?_) <;> first | omega | rfl | exact Nat.le_refl _ | exact Nat.le_of_ble_eq_true rfl | exact bytesF_one _) | (simp_all; done) | (simp_all; omega))) ?_ | refine r_sto rfl (by (first | omega | exact Nat.le_of_ble_eq_true rfl | (simp only [wrap_u8, IntKind.wrap_i64, IntKind.wrap_i32, wrap_u32', wrap_u64', InI]; (repeat' refine And.intro ?_ ?_) <;> omega) | ((repeat' refine And.intro ?_ ?_) <;> first | omega | rfl | exact Nat.le_refl _ | exact Nat.le_of_ble_eq_true rfl | exact bytesF_one _) | (simp_all; done) | (simp_all; omega))) ?_ | refine r_gobj rfl rfl rfl rfl (by (first | omega | exact Nat.le_of_ble_eq_true rfl | (simp only [wrap_u8, IntKind.wrap_i64, IntKind.wrap_i32, wrap_u32', wrap_u64', InI]; (repeat' refine And.intro ?_ ?_) <;> omega) | ((repeat' refine And.intro ?_ ?_) <;> first | omega | rfl | exact Nat.le_refl _ | exact Nat.le_of_ble_eq_true rfl | exact bytesF_one _) | (simp_all; done) | (simp_all; omega))) ?_
    | refine e_hit rfl ?_ | refine e_miss rfl ?_
    | refine ⟨by kernel_rfl, ?_⟩ | ((with_reducible refine c_grd ?_); (fail_if_success (refine c_lit true rfl rfl rfl ?_)); (fail_if_success (refine c_lit false rfl rfl rfl ?_)); refine c_split rfl rfl (fun _ => ?_) (fun _ => ?_)))
  · exact ⟨(), trivial, ⟨rfl, rfl, trivial⟩, ⟨rfl, trivial⟩, rfl, by rw [hX]; intro k hk; cases hk⟩
  · exact ⟨(), trivial, ⟨rfl, by rw [hn2 (by omega)]; rfl, trivial⟩, ⟨rfl, trivial⟩, rfl, by rw [hX]; intro k hk; cases hk⟩
  · exact ⟨(), trivial, ⟨rfl, by rw [hn2 (by omega)]; rfl, trivial⟩, ⟨rfl, trivial⟩, rfl, by rw [hX]; intro k hk; cases hk⟩
  intro _ _
  clear hn1 hn2
  have hh1 : f.hid = true → D.gs 24 1 3 (catF 1 (chF [nameT f.ty]) 2 (chF [[105, 100], Lib.decDigits f.id])) = .gs 24 1 (headL f).length (chF (headL f)) := fun h => by
    rw [hH h]
    exact gh_two 24 [nameT f.ty] [105, 100] (Lib.decDigits f.id) 1 _ rfl rfl rfl
  have hh2 : f.hid = true → (headL f).length = 3 := fun h => by rw [hH h]; rfl
  have hh3 : f.hid = false → D.gs 24 1 1 (chF [nameT f.ty]) = .gs 24 1 (headL f).length (chF (headL f)) := fun h => by
    rw [hH0 h]
    rfl
  have hh4 : f.hid = false → (headL f).length = 1 := fun h => by rw [hH0 h]; rfl
  repeat' (first
    | refine r_mid 5 hL (fun _ : Unit => [(1, .pv 1 0), (4, .gs 24 1 (headL f).length (chF (headL f)))]) (fun _ => [(1, .var (featC f)), (24, .row 9 1 (headL f).length)]) (fun _ => True) ?_ ?_
    | with_reducible refine t_seq ?_ | with_reducible refine t_region ?_ | with_reducible refine c_nil ?_ | with_reducible refine n_then ?_
    | with_reducible refine t_ret ?_ | with_reducible refine t_skip ?_ | with_reducible refine t_exit ?_ | with_reducible refine t_block ?_
    | with_reducible refine n_block ?_ | with_reducible refine e_then ?_ | with_reducible refine x_then ?_ | with_reducible refine x_block ?_ | with_reducible refine t_draw ?_
    | refine r_val rfl rfl True.intro ?_ | refine r_gskip rfl rfl rfl ?_ | refine r_gskip2 rfl rfl rfl ?_ | refine r_gval rfl rfl rfl rfl True.intro ?_
    | refine t_true rfl ?_ | refine t_false rfl ?_
    | ((first | refine t_cond_d rfl (fun _ => ?_) (fun _ => ?_) | refine t_cond_i rfl (fun _ => ?_) (fun _ => ?_) | refine t_cond_j rfl (fun _ => ?_) (fun _ => ?_) | refine t_cond_s rfl (fun _ => ?_) (fun _ => ?_) | refine t_cond_n rfl (fun _ => ?_) (fun _ => ?_) | refine t_cond rfl (fun _ => ?_) (fun _ => ?_) | refine c_split_d rfl rfl (fun _ => ?_) (fun _ => ?_) | refine c_split_i rfl rfl (fun _ => ?_) (fun _ => ?_) | refine c_split_j rfl rfl (fun _ => ?_) (fun _ => ?_) | refine c_split_s rfl rfl (fun _ => ?_) (fun _ => ?_) | refine c_split_n rfl rfl (fun _ => ?_) (fun _ => ?_)) <;> try (first | (rename_i hz; exact Bool.noConfusion (show true = false from hz)) | (rename_i hz; exact Bool.noConfusion (show false = true from hz)) | (exfalso; omega)))
    | refine r_val rfl rfl (by (first | omega | exact Nat.le_of_ble_eq_true rfl | (simp only [wrap_u8, IntKind.wrap_i64, IntKind.wrap_i32, wrap_u32', wrap_u64', InI]; (repeat' refine And.intro ?_ ?_) <;> omega) | ((repeat' refine And.intro ?_ ?_) <;> first | omega | rfl | exact Nat.le_refl _ | exact Nat.le_of_ble_eq_true rfl | exact bytesF_one _) | (simp_all; done) | (simp_all; omega))) ?_ | refine r_gval rfl rfl rfl rfl (by (first | omega | exact Nat.le_of_ble_eq_true rfl | (simp only [wrap_u8, IntKind.wrap_i64, IntKind.wrap_i32, wrap_u32', wrap_u64', InI]; (repeat' refine And.intro ?_ ?_) <;> omega) | ((repeat' refine And.intro ?_ ?_) <;> first | omega | rfl | exact Nat.le_refl _ | exact Nat.le_of_ble_eq_true rfl | exact bytesF_one _) | (simp_all; done) | (simp_all; omega))) ?_
    | refine r_obj rfl rfl (by (first | omega | exact Nat.le_of_ble_eq_true rfl | (simp only [wrap_u8, IntKind.wrap_i64, IntKind.wrap_i32, wrap_u32', wrap_u64', InI]; (repeat' refine And.intro ?_ ?_) <;> omega) | ((repeat' refine And.intro ?_ ?_) <;> first | omega | rfl | exact Nat.le_refl _ | exact Nat.le_of_ble_eq_true rfl | exact bytesF_one _) | (simp_all; done) | (simp_all; omega))) ?_ | refine r_sto rfl (by (first | omega | exact Nat.le_of_ble_eq_true rfl | (simp only [wrap_u8, IntKind.wrap_i64, IntKind.wrap_i32, wrap_u32', wrap_u64', InI]; (repeat' refine And.intro ?_ ?_) <;> omega) | ((repeat' refine And.intro ?_ ?_) <;> first | omega | rfl | exact Nat.le_refl _ | exact Nat.le_of_ble_eq_true rfl | exact bytesF_one _) | (simp_all; done) | (simp_all; omega))) ?_ | refine r_gobj rfl rfl rfl rfl (by (first | omega | exact Nat.le_of_ble_eq_true rfl | (simp only [wrap_u8, IntKind.wrap_i64, IntKind.wrap_i32, wrap_u32', wrap_u64', InI]; (repeat' refine And.intro ?_ ?_) <;> omega) | ((repeat' refine And.intro ?_ ?_) <;> first | omega | rfl | exact Nat.le_refl _ | exact Nat.le_of_ble_eq_true rfl | exact bytesF_one _) | (simp_all; done) | (simp_all; omega))) ?_
    | refine e_hit rfl ?_ | refine e_miss rfl ?_
    | refine ⟨by kernel_rfl, ?_⟩ | refine r_call (f := 32) rfl rfl Tryd.call32 rfl cb ?_ | ((with_reducible refine c_grd ?_); (fail_if_success (refine c_lit true rfl rfl rfl ?_)); (fail_if_success (refine c_lit false rfl rfl rfl ?_)); refine c_split rfl rfl (fun _ => ?_) (fun _ => ?_)))
  · exact ⟨(), trivial, ⟨rfl, hh1 ‹_›, trivial⟩, ⟨rfl, by rw [hh2 ‹_›]; rfl, trivial⟩, rfl, by rw [hX]; intro k hk; cases hk⟩
  · exact ⟨(), trivial, ⟨rfl, hh3 ‹_›, trivial⟩, ⟨rfl, by rw [hh4 ‹_›]; rfl, trivial⟩, rfl, by rw [hX]; intro k hk; cases hk⟩
  intro _ _
  clear hh1 hh2 hh3 hh4 hH hH0
  generalize hL0 : headL f = L0 at *
  repeat' (first
    | with_reducible refine t_seq ?_ | with_reducible refine t_region ?_ | with_reducible refine c_nil ?_ | with_reducible refine n_then ?_
    | with_reducible refine t_ret ?_ | with_reducible refine t_skip ?_ | with_reducible refine t_exit ?_ | with_reducible refine t_block ?_
    | with_reducible refine n_block ?_ | with_reducible refine e_then ?_ | with_reducible refine x_then ?_ | with_reducible refine x_block ?_ | with_reducible refine t_draw ?_
    | refine r_val rfl rfl True.intro ?_ | refine r_gskip rfl rfl rfl ?_ | refine r_gskip2 rfl rfl rfl ?_ | refine r_gval rfl rfl rfl rfl True.intro ?_
    | refine t_true rfl ?_ | refine t_false rfl ?_
    | ((first | refine t_cond_d rfl (fun _ => ?_) (fun _ => ?_) | refine t_cond_i rfl (fun _ => ?_) (fun _ => ?_) | refine t_cond_j rfl (fun _ => ?_) (fun _ => ?_) | refine t_cond_s rfl (fun _ => ?_) (fun _ => ?_) | refine t_cond_n rfl (fun _ => ?_) (fun _ => ?_) | refine t_cond rfl (fun _ => ?_) (fun _ => ?_) | refine c_split_d rfl rfl (fun _ => ?_) (fun _ => ?_) | refine c_split_i rfl rfl (fun _ => ?_) (fun _ => ?_) | refine c_split_j rfl rfl (fun _ => ?_) (fun _ => ?_) | refine c_split_s rfl rfl (fun _ => ?_) (fun _ => ?_) | refine c_split_n rfl rfl (fun _ => ?_) (fun _ => ?_)) <;> try (first | (rename_i hz; exact Bool.noConfusion (show true = false from hz)) | (rename_i hz; exact Bool.noConfusion (show false = true from hz)) | (exfalso; omega)))
    | refine r_val rfl rfl (by (first | omega | exact Nat.le_of_ble_eq_true rfl | (simp only [wrap_u8, IntKind.wrap_i64, IntKind.wrap_i32, wrap_u32', wrap_u64', InI]; (repeat' refine And.intro ?_ ?_) <;> omega) | ((repeat' refine And.intro ?_ ?_) <;> first | omega | rfl | exact Nat.le_refl _ | exact Nat.le_of_ble_eq_true rfl | exact bytesF_one _) | (simp_all; done) | (simp_all; omega))) ?_ | refine r_gval rfl rfl rfl rfl (by (first | omega | exact Nat.le_of_ble_eq_true rfl | (simp only [wrap_u8, IntKind.wrap_i64, IntKind.wrap_i32, wrap_u32', wrap_u64', InI]; (repeat' refine And.intro ?_ ?_) <;> omega) | ((repeat' refine And.intro ?_ ?_) <;> first | omega | rfl | exact Nat.le_refl _ | exact Nat.le_of_ble_eq_true rfl | exact bytesF_one _) | (simp_all; done) | (simp_all; omega))) ?_
    | refine r_obj rfl rfl (by (first | omega | exact Nat.le_of_ble_eq_true rfl | (simp only [wrap_u8, IntKind.wrap_i64, IntKind.wrap_i32, wrap_u32', wrap_u64', InI]; (repeat' refine And.intro ?_ ?_) <;> omega) | ((repeat' refine And.intro ?_ ?_) <;> first | omega | rfl | exact Nat.le_refl _ | exact Nat.le_of_ble_eq_true rfl | exact bytesF_one _) | (simp_all; done) | (simp_all; omega))) ?_ | refine r_sto rfl (by (first | omega | exact Nat.le_of_ble_eq_true rfl | (simp only [wrap_u8, IntKind.wrap_i64, IntKind.wrap_i32, wrap_u32', wrap_u64', InI]; (repeat' refine And.intro ?_ ?_) <;> omega) | ((repeat' refine And.intro ?_ ?_) <;> first | omega | rfl | exact Nat.le_refl _ | exact Nat.le_of_ble_eq_true rfl | exact bytesF_one _) | (simp_all; done) | (simp_all; omega))) ?_ | refine r_gobj rfl rfl rfl rfl (by (first | omega | exact Nat.le_of_ble_eq_true rfl | (simp only [wrap_u8, IntKind.wrap_i64, IntKind.wrap_i32, wrap_u32', wrap_u64', InI]; (repeat' refine And.intro ?_ ?_) <;> omega) | ((repeat' refine And.intro ?_ ?_) <;> first | omega | rfl | exact Nat.le_refl _ | exact Nat.le_of_ble_eq_true rfl | exact bytesF_one _) | (simp_all; done) | (simp_all; omega))) ?_
    | refine e_hit rfl ?_ | refine e_miss rfl ?_
    | refine ⟨by kernel_rfl, ?_⟩ | refine x_end rfl ?_ | ((with_reducible refine c_grd ?_); (fail_if_success (refine c_lit true rfl rfl rfl ?_)); (fail_if_success (refine c_lit false rfl rfl rfl ?_)); refine c_split rfl rfl (fun _ => ?_) (fun _ => ?_)))
  refine T.loop hL (fun i : Nat => [(1, .pv 1 0), (4, .gs 24 1 (L0.length + i) (chF (L0 ++ (f.paths.map parT).take i))), (34, .sl 1 f.paths.length (pgF f.paths)), (35, .i .i64 f.paths.length), (36, .i .i64 i)])
    (fun i => [(1, .var (featC f)), (24, .row 9 1 (L0.length + i))]) (fun i => i ≤ f.paths.length) (fun i => f.paths.length - i) 0
    (Nat.zero_le _) ⟨⟨rfl, by simp; rfl, rfl, rfl, rfl, trivial⟩, ⟨rfl, rfl, trivial⟩, rfl, by rw [hX]; intro k hk; cases hk⟩ ?_
  intro i g1
  by_cases hi : i < f.paths.length
  · have c1 := hp i
    have c2 := hpt i (by have := hpl i; unfold parT at this; omega)
    have e3 : parT (f.paths.getD i []) = [[40], pathT (f.paths.getD i []), [41]].flatten := rfl
    rw [← e3] at c2
    have e := gc_snoc 24 (L0.length + i) (L0 ++ (f.paths.map parT).take i) (L0 ++ (f.paths.map parT).take (i + 1)) (parT (f.paths.getD i [])) (chF [parT (f.paths.getD i [])]) (by simp; omega) rfl (by rw [takeM_snoc parT f.paths [] hi, List.append_assoc])
    generalize parT (f.paths.getD i []) = R at *
    repeat' (first
      | with_reducible refine t_seq ?_ | with_reducible refine t_region ?_ | with_reducible refine c_nil ?_ | with_reducible refine n_then ?_
      | with_reducible refine t_ret ?_ | with_reducible refine t_skip ?_ | with_reducible refine t_exit ?_ | with_reducible refine t_block ?_
      | with_reducible refine n_block ?_ | with_reducible refine e_then ?_ | with_reducible refine x_then ?_ | with_reducible refine x_block ?_ | with_reducible refine t_draw ?_
      | refine r_val rfl rfl True.intro ?_ | refine r_gskip rfl rfl rfl ?_ | refine r_gskip2 rfl rfl rfl ?_ | refine r_gval rfl rfl rfl rfl True.intro ?_
      | refine t_true rfl ?_ | refine t_false rfl ?_
      | ((first | refine t_cond_d rfl (fun _ => ?_) (fun _ => ?_) | refine t_cond_i rfl (fun _ => ?_) (fun _ => ?_) | refine t_cond_j rfl (fun _ => ?_) (fun _ => ?_) | refine t_cond_s rfl (fun _ => ?_) (fun _ => ?_) | refine t_cond_n rfl (fun _ => ?_) (fun _ => ?_) | refine t_cond rfl (fun _ => ?_) (fun _ => ?_) | refine c_split_d rfl rfl (fun _ => ?_) (fun _ => ?_) | refine c_split_i rfl rfl (fun _ => ?_) (fun _ => ?_) | refine c_split_j rfl rfl (fun _ => ?_) (fun _ => ?_) | refine c_split_s rfl rfl (fun _ => ?_) (fun _ => ?_) | refine c_split_n rfl rfl (fun _ => ?_) (fun _ => ?_)) <;> try (first | (rename_i hz; exact Bool.noConfusion (show true = false from hz)) | (rename_i hz; exact Bool.noConfusion (show false = true from hz)) | (exfalso; omega)))
      | refine r_val rfl rfl (by (first | omega | exact Nat.le_of_ble_eq_true rfl | (simp only [wrap_u8, IntKind.wrap_i64, IntKind.wrap_i32, wrap_u32', wrap_u64', InI]; (repeat' refine And.intro ?_ ?_) <;> omega) | ((repeat' refine And.intro ?_ ?_) <;> first | omega | rfl | exact Nat.le_refl _ | exact Nat.le_of_ble_eq_true rfl | exact bytesF_one _) | (simp_all; done) | (simp_all; omega))) ?_ | refine r_gval rfl rfl rfl rfl (by (first | omega | exact Nat.le_of_ble_eq_true rfl | (simp only [wrap_u8, IntKind.wrap_i64, IntKind.wrap_i32, wrap_u32', wrap_u64', InI]; (repeat' refine And.intro ?_ ?_) <;> omega) | ((repeat' refine And.intro ?_ ?_) <;> first | omega | rfl | exact Nat.le_refl _ | exact Nat.le_of_ble_eq_true rfl | exact bytesF_one _) | (simp_all; done) | (simp_all; omega))) ?_
      | refine r_obj rfl rfl (by (first | omega | exact Nat.le_of_ble_eq_true rfl | (simp only [wrap_u8, IntKind.wrap_i64, IntKind.wrap_i32, wrap_u32', wrap_u64', InI]; (repeat' refine And.intro ?_ ?_) <;> omega) | ((repeat' refine And.intro ?_ ?_) <;> first | omega | rfl | exact Nat.le_refl _ | exact Nat.le_of_ble_eq_true rfl | exact bytesF_one _) | (simp_all; done) | (simp_all; omega))) ?_ | refine r_sto rfl (by (first | omega | exact Nat.le_of_ble_eq_true rfl | (simp only [wrap_u8, IntKind.wrap_i64, IntKind.wrap_i32, wrap_u32', wrap_u64', InI]; (repeat' refine And.intro ?_ ?_) <;> omega) | ((repeat' refine And.intro ?_ ?_) <;> first | omega | rfl | exact Nat.le_refl _ | exact Nat.le_of_ble_eq_true rfl | exact bytesF_one _) | (simp_all; done) | (simp_all; omega))) ?_ | refine r_gobj rfl rfl rfl rfl (by (first | omega | exact Nat.le_of_ble_eq_true rfl | (simp only [wrap_u8, IntKind.wrap_i64, IntKind.wrap_i32, wrap_u32', wrap_u64', InI]; (repeat' refine And.intro ?_ ?_) <;> omega) | ((repeat' refine And.intro ?_ ?_) <;> first | omega | rfl | exact Nat.le_refl _ | exact Nat.le_of_ble_eq_true rfl | exact bytesF_one _) | (simp_all; done) | (simp_all; omega))) ?_
      | refine e_hit rfl ?_ | refine e_miss rfl ?_
      | refine ⟨by kernel_rfl, ?_⟩ | refine x_end rfl ?_ | refine r_call (f := 9) rfl rfl Tryd.call9 rfl c1 ?_ | refine r_call (f := 24) rfl rfl Tryd.call24 rfl c2 ?_ | ((with_reducible refine c_grd ?_); (fail_if_success (refine c_lit true rfl rfl rfl ?_)); (fail_if_success (refine c_lit false rfl rfl rfl ?_)); refine c_split rfl rfl (fun _ => ?_) (fun _ => ?_)))
    all_goals exact ⟨i + 1, by omega, by omega, ⟨rfl, e, rfl, rfl, rfl, trivial⟩, ⟨rfl, rfl, trivial⟩, rfl, by rw [hX]; intro k hk; cases hk⟩
  · obtain rfl : i = f.paths.length := by omega
    clear hp hpt hpl
    have ht : (f.paths.map parT).take f.paths.length = f.paths.map parT := List.take_of_length_le (by simp)
    rw [ht]
    repeat' (first
      | with_reducible refine t_seq ?_ | with_reducible refine t_region ?_ | with_reducible refine c_nil ?_ | with_reducible refine n_then ?_
      | with_reducible refine t_ret ?_ | with_reducible refine t_skip ?_ | with_reducible refine t_exit ?_ | with_reducible refine t_block ?_
      | with_reducible refine n_block ?_ | with_reducible refine e_then ?_ | with_reducible refine x_then ?_ | with_reducible refine x_block ?_ | with_reducible refine t_draw ?_
      | refine r_val rfl rfl True.intro ?_ | refine r_gskip rfl rfl rfl ?_ | refine r_gskip2 rfl rfl rfl ?_ | refine r_gval rfl rfl rfl rfl True.intro ?_
      | refine t_true rfl ?_ | refine t_false rfl ?_
      | ((first | refine t_cond_d rfl (fun _ => ?_) (fun _ => ?_) | refine t_cond_i rfl (fun _ => ?_) (fun _ => ?_) | refine t_cond_j rfl (fun _ => ?_) (fun _ => ?_) | refine t_cond_s rfl (fun _ => ?_) (fun _ => ?_) | refine t_cond_n rfl (fun _ => ?_) (fun _ => ?_) | refine t_cond rfl (fun _ => ?_) (fun _ => ?_) | refine c_split_d rfl rfl (fun _ => ?_) (fun _ => ?_) | refine c_split_i rfl rfl (fun _ => ?_) (fun _ => ?_) | refine c_split_j rfl rfl (fun _ => ?_) (fun _ => ?_) | refine c_split_s rfl rfl (fun _ => ?_) (fun _ => ?_) | refine c_split_n rfl rfl (fun _ => ?_) (fun _ => ?_)) <;> try (first | (rename_i hz; exact Bool.noConfusion (show true = false from hz)) | (rename_i hz; exact Bool.noConfusion (show false = true from hz)) | (exfalso; omega)))
      | refine r_val rfl rfl (by (first | omega | exact Nat.le_of_ble_eq_true rfl | (simp only [wrap_u8, IntKind.wrap_i64, IntKind.wrap_i32, wrap_u32', wrap_u64', InI]; (repeat' refine And.intro ?_ ?_) <;> omega) | ((repeat' refine And.intro ?_ ?_) <;> first | omega | rfl | exact Nat.le_refl _ | exact Nat.le_of_ble_eq_true rfl | exact bytesF_one _) | (simp_all; done) | (simp_all; omega))) ?_ | refine r_gval rfl rfl rfl rfl (by (first | omega | exact Nat.le_of_ble_eq_true rfl | (simp only [wrap_u8, IntKind.wrap_i64, IntKind.wrap_i32, wrap_u32', wrap_u64', InI]; (repeat' refine And.intro ?_ ?_) <;> omega) | ((repeat' refine And.intro ?_ ?_) <;> first | omega | rfl | exact Nat.le_refl _ | exact Nat.le_of_ble_eq_true rfl | exact bytesF_one _) | (simp_all; done) | (simp_all; omega))) ?_
      | refine r_obj rfl rfl (by (first | omega | exact Nat.le_of_ble_eq_true rfl | (simp only [wrap_u8, IntKind.wrap_i64, IntKind.wrap_i32, wrap_u32', wrap_u64', InI]; (repeat' refine And.intro ?_ ?_) <;> omega) | ((repeat' refine And.intro ?_ ?_) <;> first | omega | rfl | exact Nat.le_refl _ | exact Nat.le_of_ble_eq_true rfl | exact bytesF_one _) | (simp_all; done) | (simp_all; omega))) ?_ | refine r_sto rfl (by (first | omega | exact Nat.le_of_ble_eq_true rfl | (simp only [wrap_u8, IntKind.wrap_i64, IntKind.wrap_i32, wrap_u32', wrap_u64', InI]; (repeat' refine And.intro ?_ ?_) <;> omega) | ((repeat' refine And.intro ?_ ?_) <;> first | omega | rfl | exact Nat.le_refl _ | exact Nat.le_of_ble_eq_true rfl | exact bytesF_one _) | (simp_all; done) | (simp_all; omega))) ?_ | refine r_gobj rfl rfl rfl rfl (by (first | omega | exact Nat.le_of_ble_eq_true rfl | (simp only [wrap_u8, IntKind.wrap_i64, IntKind.wrap_i32, wrap_u32', wrap_u64', InI]; (repeat' refine And.intro ?_ ?_) <;> omega) | ((repeat' refine And.intro ?_ ?_) <;> first | omega | rfl | exact Nat.le_refl _ | exact Nat.le_of_ble_eq_true rfl | exact bytesF_one _) | (simp_all; done) | (simp_all; omega))) ?_
      | refine e_hit rfl ?_ | refine e_miss rfl ?_
      | refine ⟨by kernel_rfl, ?_⟩ | refine x_end rfl ?_ | ((with_reducible refine c_grd ?_); (fail_if_success (refine c_lit true rfl rfl rfl ?_)); (fail_if_success (refine c_lit false rfl rfl rfl ?_)); refine c_split rfl rfl (fun _ => ?_) (fun _ => ?_)))
    refine T.loop hL (fun j : Nat => [(1, .pv 1 0), (4, .gs 24 1 (L0.length + f.paths.length + j) (chF (L0 ++ f.paths.map parT ++ (f.ats.map attT).take j))), (49, .sl 4 f.ats.length (attF f.ats)), (50, .i .i64 f.ats.length), (51, .i .i64 j)])
      (fun j => [(1, .var (featC f)), (24, .row 9 1 (L0.length + f.paths.length + j))]) (fun j => j ≤ f.ats.length) (fun j => f.ats.length - j) 0
      (Nat.zero_le _) ⟨⟨rfl, by simp; rfl, rfl, rfl, rfl, trivial⟩, ⟨rfl, rfl, trivial⟩, rfl, by rw [hX]; intro k hk; cases hk⟩ ?_
    intro j g2
    by_cases hj : j < f.ats.length
    · obtain ⟨a1, a2, a3, a4⟩ := hf.aso j
      have c1 := quote_ctr (f.ats.getD j dA).1 a1
      have c2 := value_ctrR (f.ats.getD j dA).2.1 (f.ats.getD j dA).2.2.1 a2 (f.ats.getD j dA).2.2.2.toNat (by omega)
      rw [Int.toNat_of_nonneg a3] at c2
      have l1 := attT_len a1 a2 a3 a4
      have c4 := rtext_ctrR [quoteL (f.ats.getD j dA).1, [61], valT (f.ats.getD j dA).2.1 (f.ats.getD j dA).2.2.1 (f.ats.getD j dA).2.2.2.toNat] 3 (chF [quoteL (f.ats.getD j dA).1, [61], valT (f.ats.getD j dA).2.1 (f.ats.getD j dA).2.2.1 (f.ats.getD j dA).2.2.2.toNat]) rfl (chunk_tx _) (by simp) (by unfold attT at l1; omega)
      have e3 : attT (f.ats.getD j dA) = [quoteL (f.ats.getD j dA).1, [61], valT (f.ats.getD j dA).2.1 (f.ats.getD j dA).2.2.1 (f.ats.getD j dA).2.2.2.toNat].flatten := rfl
      rw [← e3] at c4
      have e := gc_snoc 24 (L0.length + f.paths.length + j) (L0 ++ f.paths.map parT ++ (f.ats.map attT).take j) (L0 ++ f.paths.map parT ++ (f.ats.map attT).take (j + 1)) (attT (f.ats.getD j dA)) (chF [attT (f.ats.getD j dA)]) (by simp; omega) rfl (by rw [takeM_snoc attT f.ats dA hj]; simp only [List.append_assoc])
      generalize attT (f.ats.getD j dA) = R at *
      generalize quoteL (f.ats.getD j dA).1 = Q1 at *
      generalize valT (f.ats.getD j dA).2.1 (f.ats.getD j dA).2.2.1 (f.ats.getD j dA).2.2.2.toNat = V1 at *
      clear e3
      repeat' (first
        | with_reducible refine t_seq ?_ | with_reducible refine t_region ?_ | with_reducible refine c_nil ?_ | with_reducible refine n_then ?_
        | with_reducible refine t_ret ?_ | with_reducible refine t_skip ?_ | with_reducible refine t_exit ?_ | with_reducible refine t_block ?_
        | with_reducible refine n_block ?_ | with_reducible refine e_then ?_ | with_reducible refine x_then ?_ | with_reducible refine x_block ?_ | with_reducible refine t_draw ?_
        | refine r_val rfl rfl True.intro ?_ | refine r_gskip rfl rfl rfl ?_ | refine r_gskip2 rfl rfl rfl ?_ | refine r_gval rfl rfl rfl rfl True.intro ?_
        | refine t_true rfl ?_ | refine t_false rfl ?_
        | ((first | refine t_cond_d rfl (fun _ => ?_) (fun _ => ?_) | refine t_cond_i rfl (fun _ => ?_) (fun _ => ?_) | refine t_cond_j rfl (fun _ => ?_) (fun _ => ?_) | refine t_cond_s rfl (fun _ => ?_) (fun _ => ?_) | refine t_cond_n rfl (fun _ => ?_) (fun _ => ?_) | refine t_cond rfl (fun _ => ?_) (fun _ => ?_) | refine c_split_d rfl rfl (fun _ => ?_) (fun _ => ?_) | refine c_split_i rfl rfl (fun _ => ?_) (fun _ => ?_) | refine c_split_j rfl rfl (fun _ => ?_) (fun _ => ?_) | refine c_split_s rfl rfl (fun _ => ?_) (fun _ => ?_) | refine c_split_n rfl rfl (fun _ => ?_) (fun _ => ?_)) <;> try (first | (rename_i hz; exact Bool.noConfusion (show true = false from hz)) | (rename_i hz; exact Bool.noConfusion (show false = true from hz)) | (exfalso; omega)))
        | refine r_val rfl rfl (by (first | omega | exact Nat.le_of_ble_eq_true rfl | (simp only [wrap_u8, IntKind.wrap_i64, IntKind.wrap_i32, wrap_u32', wrap_u64', InI]; (repeat' refine And.intro ?_ ?_) <;> omega) | ((repeat' refine And.intro ?_ ?_) <;> first | omega | rfl | exact Nat.le_refl _ | exact Nat.le_of_ble_eq_true rfl | exact bytesF_one _) | (simp_all; done) | (simp_all; omega))) ?_ | refine r_gval rfl rfl rfl rfl (by (first | omega | exact Nat.le_of_ble_eq_true rfl | (simp only [wrap_u8, IntKind.wrap_i64, IntKind.wrap_i32, wrap_u32', wrap_u64', InI]; (repeat' refine And.intro ?_ ?_) <;> omega) | ((repeat' refine And.intro ?_ ?_) <;> first | omega | rfl | exact Nat.le_refl _ | exact Nat.le_of_ble_eq_true rfl | exact bytesF_one _) | (simp_all; done) | (simp_all; omega))) ?_
        | refine r_obj rfl rfl (by (first | omega | exact Nat.le_of_ble_eq_true rfl | (simp only [wrap_u8, IntKind.wrap_i64, IntKind.wrap_i32, wrap_u32', wrap_u64', InI]; (repeat' refine And.intro ?_ ?_) <;> omega) | ((repeat' refine And.intro ?_ ?_) <;> first | omega | rfl | exact Nat.le_refl _ | exact Nat.le_of_ble_eq_true rfl | exact bytesF_one _) | (simp_all; done) | (simp_all; omega))) ?_ | refine r_sto rfl (by (first | omega | exact Nat.le_of_ble_eq_true rfl | (simp only [wrap_u8, IntKind.wrap_i64, IntKind.wrap_i32, wrap_u32', wrap_u64', InI]; (repeat' refine And.intro ?_ ?_) <;> omega) | ((repeat' refine And.intro ?_ ?_) <;> first | omega | rfl | exact Nat.le_refl _ | exact Nat.le_of_ble_eq_true rfl | exact bytesF_one _) | (simp_all; done) | (simp_all; omega))) ?_ | refine r_gobj rfl rfl rfl rfl (by (first | omega | exact Nat.le_of_ble_eq_true rfl | (simp only [wrap_u8, IntKind.wrap_i64, IntKind.wrap_i32, wrap_u32', wrap_u64', InI]; (repeat' refine And.intro ?_ ?_) <;> omega) | ((repeat' refine And.intro ?_ ?_) <;> first | omega | rfl | exact Nat.le_refl _ | exact Nat.le_of_ble_eq_true rfl | exact bytesF_one _) | (simp_all; done) | (simp_all; omega))) ?_
        | refine e_hit rfl ?_ | refine e_miss rfl ?_
        | refine ⟨by kernel_rfl, ?_⟩ | refine x_end rfl ?_ | refine r_call (f := 29) rfl rfl Tryd.call29 rfl c1 ?_ | refine r_call (f := 11) rfl rfl Tryd.call11 rfl c2 ?_ | refine r_call (f := 24) rfl rfl Tryd.call24 rfl c4 ?_ | ((with_reducible refine c_grd ?_); (fail_if_success (refine c_lit true rfl rfl rfl ?_)); (fail_if_success (refine c_lit false rfl rfl rfl ?_)); refine c_split rfl rfl (fun _ => ?_) (fun _ => ?_)))
      all_goals exact ⟨j + 1, by omega, by omega, ⟨rfl, e, rfl, rfl, rfl, trivial⟩, ⟨rfl, rfl, trivial⟩, rfl, by rw [hX]; intro k hk; cases hk⟩
    · obtain rfl : j = f.ats.length := by omega
      have ht2 : (f.ats.map attT).take f.ats.length = f.ats.map attT := List.take_of_length_le (by simp)
      rw [ht2]
      have e : featT f = Lib.join (L0 ++ f.paths.map parT ++ f.ats.map attT) [32] := by
        unfold featT
        rw [hL0]
      rw [e] at hlen ⊢
      have c5 := join_ctr (L0 ++ f.paths.map parT ++ f.ats.map attT) (L0.length + f.paths.length + f.ats.length) (chF (L0 ++ f.paths.map parT ++ f.ats.map attT)) [32] (by simp only [List.length_append, List.length_map]) (chunk_tx _) (by simp only [List.length_append, List.length_map]; omega) (by omega)
      generalize Lib.join (L0 ++ f.paths.map parT ++ f.ats.map attT) [32] = R at *
      repeat' (first
        | with_reducible refine t_seq ?_ | with_reducible refine t_region ?_ | with_reducible refine c_nil ?_ | with_reducible refine n_then ?_
        | with_reducible refine t_ret ?_ | with_reducible refine t_skip ?_ | with_reducible refine t_exit ?_ | with_reducible refine t_block ?_
        | with_reducible refine n_block ?_ | with_reducible refine e_then ?_ | with_reducible refine x_then ?_ | with_reducible refine x_block ?_ | with_reducible refine t_draw ?_
        | refine r_val rfl rfl True.intro ?_ | refine r_gskip rfl rfl rfl ?_ | refine r_gskip2 rfl rfl rfl ?_ | refine r_gval rfl rfl rfl rfl True.intro ?_
        | refine t_true rfl ?_ | refine t_false rfl ?_
        | ((first | refine t_cond_d rfl (fun _ => ?_) (fun _ => ?_) | refine t_cond_i rfl (fun _ => ?_) (fun _ => ?_) | refine t_cond_j rfl (fun _ => ?_) (fun _ => ?_) | refine t_cond_s rfl (fun _ => ?_) (fun _ => ?_) | refine t_cond_n rfl (fun _ => ?_) (fun _ => ?_) | refine t_cond rfl (fun _ => ?_) (fun _ => ?_) | refine c_split_d rfl rfl (fun _ => ?_) (fun _ => ?_) | refine c_split_i rfl rfl (fun _ => ?_) (fun _ => ?_) | refine c_split_j rfl rfl (fun _ => ?_) (fun _ => ?_) | refine c_split_s rfl rfl (fun _ => ?_) (fun _ => ?_) | refine c_split_n rfl rfl (fun _ => ?_) (fun _ => ?_)) <;> try (first | (rename_i hz; exact Bool.noConfusion (show true = false from hz)) | (rename_i hz; exact Bool.noConfusion (show false = true from hz)) | (exfalso; omega)))
        | refine r_val rfl rfl (by (first | omega | exact Nat.le_of_ble_eq_true rfl | (simp only [wrap_u8, IntKind.wrap_i64, IntKind.wrap_i32, wrap_u32', wrap_u64', InI]; (repeat' refine And.intro ?_ ?_) <;> omega) | ((repeat' refine And.intro ?_ ?_) <;> first | omega | rfl | exact Nat.le_refl _ | exact Nat.le_of_ble_eq_true rfl | exact bytesF_one _) | (simp_all; done) | (simp_all; omega))) ?_ | refine r_gval rfl rfl rfl rfl (by (first | omega | exact Nat.le_of_ble_eq_true rfl | (simp only [wrap_u8, IntKind.wrap_i64, IntKind.wrap_i32, wrap_u32', wrap_u64', InI]; (repeat' refine And.intro ?_ ?_) <;> omega) | ((repeat' refine And.intro ?_ ?_) <;> first | omega | rfl | exact Nat.le_refl _ | exact Nat.le_of_ble_eq_true rfl | exact bytesF_one _) | (simp_all; done) | (simp_all; omega))) ?_
        | refine r_obj rfl rfl (by (first | omega | exact Nat.le_of_ble_eq_true rfl | (simp only [wrap_u8, IntKind.wrap_i64, IntKind.wrap_i32, wrap_u32', wrap_u64', InI]; (repeat' refine And.intro ?_ ?_) <;> omega) | ((repeat' refine And.intro ?_ ?_) <;> first | omega | rfl | exact Nat.le_refl _ | exact Nat.le_of_ble_eq_true rfl | exact bytesF_one _) | (simp_all; done) | (simp_all; omega))) ?_ | refine r_sto rfl (by (first | omega | exact Nat.le_of_ble_eq_true rfl | (simp only [wrap_u8, IntKind.wrap_i64, IntKind.wrap_i32, wrap_u32', wrap_u64', InI]; (repeat' refine And.intro ?_ ?_) <;> omega) | ((repeat' refine And.intro ?_ ?_) <;> first | omega | rfl | exact Nat.le_refl _ | exact Nat.le_of_ble_eq_true rfl | exact bytesF_one _) | (simp_all; done) | (simp_all; omega))) ?_ | refine r_gobj rfl rfl rfl rfl (by (first | omega | exact Nat.le_of_ble_eq_true rfl | (simp only [wrap_u8, IntKind.wrap_i64, IntKind.wrap_i32, wrap_u32', wrap_u64', InI]; (repeat' refine And.intro ?_ ?_) <;> omega) | ((repeat' refine And.intro ?_ ?_) <;> first | omega | rfl | exact Nat.le_refl _ | exact Nat.le_of_ble_eq_true rfl | exact bytesF_one _) | (simp_all; done) | (simp_all; omega))) ?_
        | refine e_hit rfl ?_ | refine e_miss rfl ?_
        | refine ⟨by kernel_rfl, ?_⟩ | refine x_end rfl ?_ | refine r_call (f := 27) rfl rfl Tryd.call27 rfl c5 ?_ | ((with_reducible refine c_grd ?_); (fail_if_success (refine c_lit true rfl rfl rfl ?_)); (fail_if_success (refine c_lit false rfl rfl rfl ?_)); refine c_split rfl rfl (fun _ => ?_) (fun _ => ?_)))
      all_goals rfl

/-- .. with a blank and some text more. -/
theorem join_cat (l : List (List UInt8)) (x sep : List UInt8) (h : 1 ≤ l.length) {s : List UInt8} (hs : s = Lib.join l sep ++ sep ++ x) : s = Lib.join (l ++ [x]) sep := by
  rw [hs, join_more l x sep h]

set_option maxRecDepth 100000 in
set_option maxHeartbeats 8000000 in
theorem rfeature_ctr (f : FeatR) (hf : FeatOk f) : Ctr Tryd.prog 21 [.ag (featC f)] (.s (featT f)) := by
  have hlen := part_len hf
  have cb := rbig_ctrR f.id hf.id
  have hH : f.hid = true → Lib.join (headL f) [32] = (nameT f.ty ++ [32, 105, 100, 32]) ++ Lib.decDigits f.id := fun h => by
    rw [show headL f = [nameT f.ty, [105, 100], Lib.decDigits f.id] from if_pos h, Lib.join_cons]
    simp [Lib.joinTail]
  have hH0 : f.hid = false → Lib.join (headL f) [32] = nameT f.ty := fun h => by
    rw [show headL f = [nameT f.ty] from if_neg (by rw [h]; decide), Lib.join_one]
  have hn1 : (1 ≤ f.ty ∧ f.ty ≤ 3) → chF [[], [112, 111, 105, 110, 116], [108, 105, 110, 101], [112, 111, 108, 121, 103, 111, 110]] f.ty.toNat = [.s (nameT f.ty)] := fun h => rname_at h.1 h.2
  have hn2 : ¬ (1 ≤ f.ty ∧ f.ty ≤ 3) → nameT f.ty = [63] := name_no
  have hnl := nameT_len f.ty
  have hdl : (Lib.decDigits f.id).length ≤ 20 := dec_len f.id 20 (by have : (10 : Nat) ^ 20 = 100000000000000000000 := by decide
                                                                     have := hf.id
                                                                     omega) (by omega)
  obtain ⟨hl1, hl2, _⟩ := headL_len hf
  have hp := fun i => rpath_ctrR _ (hf.ps i).1
  have hpl := fun i : Nat => parT_len (hf.ps i).1 (hf.ps i).2
  have hnp := hf.np
  have hna := hf.na
  refine r_fun Tryd.func21 rfl Tryd.ntmps21 Tryd.results21 rfl rfl fun X hL hX => ?_
  repeat' (first
    | refine r_ldrf (.s (nameT f.ty)) rfl rfl (hn1 (by omega)) rfl ?_ | refine r_mid 2 hL (fun _ : Unit => [(1, .pv 1 0), (3, .s (nameT f.ty))]) (fun _ => [(1, .var (featC f))]) (fun _ => True) ?_ ?_
    | with_reducible refine t_seq ?_ | with_reducible refine t_region ?_ | with_reducible refine c_nil ?_ | with_reducible refine n_then ?_
    | with_reducible refine t_ret ?_ | with_reducible refine t_skip ?_ | with_reducible refine t_exit ?_ | with_reducible refine t_block ?_
    | with_reducible refine n_block ?_ | with_reducible refine e_then ?_ | with_reducible refine x_then ?_ | with_reducible refine x_block ?_ | with_reducible refine t_draw ?_
    | refine r_val rfl rfl True.intro ?_ | refine r_gskip rfl rfl rfl ?_ | refine r_gskip2 rfl rfl rfl ?_ | refine r_gval rfl rfl rfl rfl True.intro ?_
    | refine t_true rfl ?_ | refine t_false rfl ?_
    | ((first | refine t_cond_d rfl (fun _ => ?_) (fun _ => ?_) | refine t_cond_i rfl (fun _ => ?_) (fun _ => ?_) | refine t_cond_j rfl (fun _ => ?_) (fun _ => ?_) | refine t_cond_s rfl (fun _ => ?_) (fun _ => ?_) | refine t_cond_n rfl (fun _ => ?_) (fun _ => ?_) | refine t_cond rfl (fun _ => ?_) (fun _ => ?_) | refine c_split_d rfl rfl (fun _ => ?_) (fun _ => ?_) | refine c_split_i rfl rfl (fun _ => ?_) (fun _ => ?_) | refine c_split_j rfl rfl (fun _ => ?_) (fun _ => ?_) | refine c_split_s rfl rfl (fun _ => ?_) (fun _ => ?_) | refine c_split_n rfl rfl (fun _ => ?_) (fun _ => ?_)) <;> try (first | (rename_i hz; exact Bool.noConfusion (show true = false from hz)) | (rename_i hz; exact Bool.noConfusion (show false = true from hz)) | (exfalso; omega)))
    | refine r_val rfl rfl (by (first | omega | exact Nat.le_of_ble_eq_true rfl | (simp only [wrap_u8, IntKind.wrap_i64, IntKind.wrap_i32, wrap_u32', wrap_u64', InI]; (repeat' refine And.intro ?_ ?_) <;> omega) | ((repeat' refine And.intro ?_ ?_) <;> first | omega | rfl | exact Nat.le_refl _ | exact Nat.le_of_ble_eq_true rfl | exact bytesF_one _) | (simp_all; done) | (simp_all; omega))) ?_ | refine r_gval rfl rfl rfl rfl (by (first | omega | exact Nat.le_of_ble_eq_true rfl | (simp only [wrap_u8, IntKind.wrap_i64, IntKind.wrap_i32, wrap_u32', wrap_u64', InI]; (repeat' refine And.intro ?_ ?_) <;> omega) | ((repeat' refine And.intro ?_ ?_) <;> first | omega | rfl | exact Nat.le_refl _ | exact Nat.le_of_ble_eq_true rfl | exact bytesF_one _) | (simp_all; done) | (simp_all; omega))) ?_
    | refine r_obj rfl rfl (by (first | omega | exact Nat.le_of_ble_eq_true rfl | (simp only [wrap_u8, IntKind.wrap_i64, IntKind.wrap_i32, wrap_u32', wrap_u64', InI]; (repeat' refine And.intro ?_ ?_) <;> omega) | ((repeat' refine And.intro ?_ ?_) <;> first | omega | rfl | exact Nat.le_refl _ | exact Nat.le_of_ble_eq_true rfl | exact bytesF_one _) | (simp_all; done) | (simp_all; omega))) ?_ | refine r_sto rfl (by (first | omega | exact Nat.le_of_ble_eq_true rfl | (simp only [wrap_u8, IntKind.wrap_i64, IntKind.wrap_i32, wrap_u32', wrap_u64', InI]; (repeat' refine And.intro ?_ ?_) <;> omega) | ((repeat' refine And.intro ?_ ?_) <;> first | omega | rfl | exact Nat.le_refl _ | exact Nat.le_of_ble_eq_true rfl | exact bytesF_one _) | (simp_all; done) | (simp_all; omega))) ?_ | refine r_gobj rfl rfl rfl rfl (by (first | omega | exact Nat.le_of_ble_eq_true rfl | (simp only [wrap_u8, IntKind.wrap_i64, IntKind.wrap_i32, wrap_u32', wrap_u64', InI]; (repeat' refine And.intro ?_ ?_) <;> omega) | ((repeat' refine And.intro ?_ ?_) <;> first | omega | rfl | exact Nat.le_refl _ | exact Nat.le_of_ble_eq_true rfl | exact bytesF_one _) | (simp_all; done) | (simp_all; omega))) ?_
    | refine e_hit rfl ?_ | refine e_miss rfl ?_
    | refine ⟨by kernel_rfl, ?_⟩ | ((with_reducible refine c_grd ?_); (fail_if_success (refine c_lit true rfl rfl rfl ?_)); (fail_if_success (refine c_lit false rfl rfl rfl ?_)); refine c_split rfl rfl (fun _ => ?_) (fun _ => ?_)))
  · exact ⟨(), trivial, ⟨rfl, rfl, trivial⟩, ⟨rfl, trivial⟩, rfl, by rw [hX]; intro k hk; cases hk⟩
  · exact ⟨(), trivial, ⟨rfl, by rw [hn2 (by omega)]; rfl, trivial⟩, ⟨rfl, trivial⟩, rfl, by rw [hX]; intro k hk; cases hk⟩
  · exact ⟨(), trivial, ⟨rfl, by rw [hn2 (by omega)]; rfl, trivial⟩, ⟨rfl, trivial⟩, rfl, by rw [hX]; intro k hk; cases hk⟩
  intro _ _
  clear hn1 hn2
  generalize nameT f.ty = N0 at *
  repeat' (first
    | refine r_mid 4 hL (fun _ : Unit => [(1, .pv 1 0), (3, .s (Lib.join (headL f) [32]))]) (fun _ => [(1, .var (featC f))]) (fun _ => True) ?_ ?_
    | with_reducible refine t_seq ?_ | with_reducible refine t_region ?_ | with_reducible refine c_nil ?_ | with_reducible refine n_then ?_
    | with_reducible refine t_ret ?_ | with_reducible refine t_skip ?_ | with_reducible refine t_exit ?_ | with_reducible refine t_block ?_
    | with_reducible refine n_block ?_ | with_reducible refine e_then ?_ | with_reducible refine x_then ?_ | with_reducible refine x_block ?_ | with_reducible refine t_draw ?_
    | refine r_val rfl rfl True.intro ?_ | refine r_gskip rfl rfl rfl ?_ | refine r_gskip2 rfl rfl rfl ?_ | refine r_gval rfl rfl rfl rfl True.intro ?_
    | refine t_true rfl ?_ | refine t_false rfl ?_
    | ((first | refine t_cond_d rfl (fun _ => ?_) (fun _ => ?_) | refine t_cond_i rfl (fun _ => ?_) (fun _ => ?_) | refine t_cond_j rfl (fun _ => ?_) (fun _ => ?_) | refine t_cond_s rfl (fun _ => ?_) (fun _ => ?_) | refine t_cond_n rfl (fun _ => ?_) (fun _ => ?_) | refine t_cond rfl (fun _ => ?_) (fun _ => ?_) | refine c_split_d rfl rfl (fun _ => ?_) (fun _ => ?_) | refine c_split_i rfl rfl (fun _ => ?_) (fun _ => ?_) | refine c_split_j rfl rfl (fun _ => ?_) (fun _ => ?_) | refine c_split_s rfl rfl (fun _ => ?_) (fun _ => ?_) | refine c_split_n rfl rfl (fun _ => ?_) (fun _ => ?_)) <;> try (first | (rename_i hz; exact Bool.noConfusion (show true = false from hz)) | (rename_i hz; exact Bool.noConfusion (show false = true from hz)) | (exfalso; omega)))
    | refine r_val rfl rfl (by (first | (simp only [List.length_append, List.length_cons, List.length_nil]; omega) | omega | exact Nat.le_of_ble_eq_true rfl | (simp only [wrap_u8, IntKind.wrap_i64, IntKind.wrap_i32, wrap_u32', wrap_u64', InI]; (repeat' refine And.intro ?_ ?_) <;> omega) | ((repeat' refine And.intro ?_ ?_) <;> first | omega | rfl | exact Nat.le_refl _ | exact Nat.le_of_ble_eq_true rfl | exact bytesF_one _) | (simp_all; done) | (simp_all; omega))) ?_ | refine r_gval rfl rfl rfl rfl (by (first | (simp only [List.length_append, List.length_cons, List.length_nil]; omega) | omega | exact Nat.le_of_ble_eq_true rfl | (simp only [wrap_u8, IntKind.wrap_i64, IntKind.wrap_i32, wrap_u32', wrap_u64', InI]; (repeat' refine And.intro ?_ ?_) <;> omega) | ((repeat' refine And.intro ?_ ?_) <;> first | omega | rfl | exact Nat.le_refl _ | exact Nat.le_of_ble_eq_true rfl | exact bytesF_one _) | (simp_all; done) | (simp_all; omega))) ?_
    | refine r_obj rfl rfl (by (first | (simp only [List.length_append, List.length_cons, List.length_nil]; omega) | omega | exact Nat.le_of_ble_eq_true rfl | (simp only [wrap_u8, IntKind.wrap_i64, IntKind.wrap_i32, wrap_u32', wrap_u64', InI]; (repeat' refine And.intro ?_ ?_) <;> omega) | ((repeat' refine And.intro ?_ ?_) <;> first | omega | rfl | exact Nat.le_refl _ | exact Nat.le_of_ble_eq_true rfl | exact bytesF_one _) | (simp_all; done) | (simp_all; omega))) ?_ | refine r_sto rfl (by (first | (simp only [List.length_append, List.length_cons, List.length_nil]; omega) | omega | exact Nat.le_of_ble_eq_true rfl | (simp only [wrap_u8, IntKind.wrap_i64, IntKind.wrap_i32, wrap_u32', wrap_u64', InI]; (repeat' refine And.intro ?_ ?_) <;> omega) | ((repeat' refine And.intro ?_ ?_) <;> first | omega | rfl | exact Nat.le_refl _ | exact Nat.le_of_ble_eq_true rfl | exact bytesF_one _) | (simp_all; done) | (simp_all; omega))) ?_ | refine r_gobj rfl rfl rfl rfl (by (first | (simp only [List.length_append, List.length_cons, List.length_nil]; omega) | omega | exact Nat.le_of_ble_eq_true rfl | (simp only [wrap_u8, IntKind.wrap_i64, IntKind.wrap_i32, wrap_u32', wrap_u64', InI]; (repeat' refine And.intro ?_ ?_) <;> omega) | ((repeat' refine And.intro ?_ ?_) <;> first | omega | rfl | exact Nat.le_refl _ | exact Nat.le_of_ble_eq_true rfl | exact bytesF_one _) | (simp_all; done) | (simp_all; omega))) ?_
    | refine e_hit rfl ?_ | refine e_miss rfl ?_
    | refine ⟨by kernel_rfl, ?_⟩ | refine r_call (f := 43) rfl rfl Tryd.call43 rfl cb ?_ | ((with_reducible refine c_grd ?_); (fail_if_success (refine c_lit true rfl rfl rfl ?_)); (fail_if_success (refine c_lit false rfl rfl rfl ?_)); refine c_split rfl rfl (fun _ => ?_) (fun _ => ?_)))
  · exact ⟨(), trivial, ⟨rfl, congrArg D.s (hH ‹_›).symm, trivial⟩, ⟨rfl, trivial⟩, rfl, by rw [hX]; intro k hk; cases hk⟩
  · exact ⟨(), trivial, ⟨rfl, congrArg D.s (hH0 ‹_›).symm, trivial⟩, ⟨rfl, trivial⟩, rfl, by rw [hX]; intro k hk; cases hk⟩
  intro _ _
  clear hH hH0
  generalize hL0 : headL f = L0 at *
  repeat' (first
    | with_reducible refine t_seq ?_ | with_reducible refine t_region ?_ | with_reducible refine c_nil ?_ | with_reducible refine n_then ?_
    | with_reducible refine t_ret ?_ | with_reducible refine t_skip ?_ | with_reducible refine t_exit ?_ | with_reducible refine t_block ?_
    | with_reducible refine n_block ?_ | with_reducible refine e_then ?_ | with_reducible refine x_then ?_ | with_reducible refine x_block ?_ | with_reducible refine t_draw ?_
    | refine r_val rfl rfl True.intro ?_ | refine r_gskip rfl rfl rfl ?_ | refine r_gskip2 rfl rfl rfl ?_ | refine r_gval rfl rfl rfl rfl True.intro ?_
    | refine t_true rfl ?_ | refine t_false rfl ?_
    | ((first | refine t_cond_d rfl (fun _ => ?_) (fun _ => ?_) | refine t_cond_i rfl (fun _ => ?_) (fun _ => ?_) | refine t_cond_j rfl (fun _ => ?_) (fun _ => ?_) | refine t_cond_s rfl (fun _ => ?_) (fun _ => ?_) | refine t_cond_n rfl (fun _ => ?_) (fun _ => ?_) | refine t_cond rfl (fun _ => ?_) (fun _ => ?_) | refine c_split_d rfl rfl (fun _ => ?_) (fun _ => ?_) | refine c_split_i rfl rfl (fun _ => ?_) (fun _ => ?_) | refine c_split_j rfl rfl (fun _ => ?_) (fun _ => ?_) | refine c_split_s rfl rfl (fun _ => ?_) (fun _ => ?_) | refine c_split_n rfl rfl (fun _ => ?_) (fun _ => ?_)) <;> try (first | (rename_i hz; exact Bool.noConfusion (show true = false from hz)) | (rename_i hz; exact Bool.noConfusion (show false = true from hz)) | (exfalso; omega)))
    | refine r_val rfl rfl (by (first | omega | exact Nat.le_of_ble_eq_true rfl | (simp only [wrap_u8, IntKind.wrap_i64, IntKind.wrap_i32, wrap_u32', wrap_u64', InI]; (repeat' refine And.intro ?_ ?_) <;> omega) | ((repeat' refine And.intro ?_ ?_) <;> first | omega | rfl | exact Nat.le_refl _ | exact Nat.le_of_ble_eq_true rfl | exact bytesF_one _) | (simp_all; done) | (simp_all; omega))) ?_ | refine r_gval rfl rfl rfl rfl (by (first | omega | exact Nat.le_of_ble_eq_true rfl | (simp only [wrap_u8, IntKind.wrap_i64, IntKind.wrap_i32, wrap_u32', wrap_u64', InI]; (repeat' refine And.intro ?_ ?_) <;> omega) | ((repeat' refine And.intro ?_ ?_) <;> first | omega | rfl | exact Nat.le_refl _ | exact Nat.le_of_ble_eq_true rfl | exact bytesF_one _) | (simp_all; done) | (simp_all; omega))) ?_
    | refine r_obj rfl rfl (by (first | omega | exact Nat.le_of_ble_eq_true rfl | (simp only [wrap_u8, IntKind.wrap_i64, IntKind.wrap_i32, wrap_u32', wrap_u64', InI]; (repeat' refine And.intro ?_ ?_) <;> omega) | ((repeat' refine And.intro ?_ ?_) <;> first | omega | rfl | exact Nat.le_refl _ | exact Nat.le_of_ble_eq_true rfl | exact bytesF_one _) | (simp_all; done) | (simp_all; omega))) ?_ | refine r_sto rfl (by (first | omega | exact Nat.le_of_ble_eq_true rfl | (simp only [wrap_u8, IntKind.wrap_i64, IntKind.wrap_i32, wrap_u32', wrap_u64', InI]; (repeat' refine And.intro ?_ ?_) <;> omega) | ((repeat' refine And.intro ?_ ?_) <;> first | omega | rfl | exact Nat.le_refl _ | exact Nat.le_of_ble_eq_true rfl | exact bytesF_one _) | (simp_all; done) | (simp_all; omega))) ?_ | refine r_gobj rfl rfl rfl rfl (by (first | omega | exact Nat.le_of_ble_eq_true rfl | (simp only [wrap_u8, IntKind.wrap_i64, IntKind.wrap_i32, wrap_u32', wrap_u64', InI]; (repeat' refine And.intro ?_ ?_) <;> omega) | ((repeat' refine And.intro ?_ ?_) <;> first | omega | rfl | exact Nat.le_refl _ | exact Nat.le_of_ble_eq_true rfl | exact bytesF_one _) | (simp_all; done) | (simp_all; omega))) ?_
    | refine e_hit rfl ?_ | refine e_miss rfl ?_
    | refine ⟨by kernel_rfl, ?_⟩ | refine x_end rfl ?_ | ((with_reducible refine c_grd ?_); (fail_if_success (refine c_lit true rfl rfl rfl ?_)); (fail_if_success (refine c_lit false rfl rfl rfl ?_)); refine c_split rfl rfl (fun _ => ?_) (fun _ => ?_)))
  refine T.loop hL (fun i : Nat => [(1, .pv 1 0), (3, .s (Lib.join (L0 ++ (f.paths.map parT).take i) [32])), (4, .i .i64 i)])
    (fun i => [(1, .var (featC f))]) (fun i => i ≤ f.paths.length) (fun i => f.paths.length - i) 0
    (Nat.zero_le _) ⟨⟨rfl, by simp; rfl, rfl, trivial⟩, ⟨rfl, trivial⟩, rfl, by rw [hX]; intro k hk; cases hk⟩ ?_
  intro i g1
  by_cases hi : i < f.paths.length
  · have c1 := hp i
    have l1 := hlen i 0
    rw [List.take_zero, List.append_nil] at l1
    have l2 := hpl i
    have l3 : (pathT (f.paths.getD i [])).length ≤ 50000 := by
      unfold parT at l2
      simp only [List.flatten_cons, List.flatten_nil, List.length_append, List.length_cons, List.length_nil] at l2
      omega
    have e : ((Lib.join (L0 ++ (f.paths.map parT).take i) [32] ++ [32, 40]) ++ pathT (f.paths.getD i [])) ++ [41] = Lib.join (L0 ++ (f.paths.map parT).take (i + 1)) [32] := by
      rw [takeM_snoc parT f.paths [] hi, ← List.append_assoc]
      refine join_cat _ _ _ (by simp; omega) ?_
      unfold parT
      simp
    generalize Lib.join (L0 ++ (f.paths.map parT).take i) [32] = A at *
    generalize pathT (f.paths.getD i []) = R at *
    repeat' (first
      | with_reducible refine t_seq ?_ | with_reducible refine t_region ?_ | with_reducible refine c_nil ?_ | with_reducible refine n_then ?_
      | with_reducible refine t_ret ?_ | with_reducible refine t_skip ?_ | with_reducible refine t_exit ?_ | with_reducible refine t_block ?_
      | with_reducible refine n_block ?_ | with_reducible refine e_then ?_ | with_reducible refine x_then ?_ | with_reducible refine x_block ?_ | with_reducible refine t_draw ?_
      | refine r_val rfl rfl True.intro ?_ | refine r_gskip rfl rfl rfl ?_ | refine r_gskip2 rfl rfl rfl ?_ | refine r_gval rfl rfl rfl rfl True.intro ?_
      | refine t_true rfl ?_ | refine t_false rfl ?_
      | ((first | refine t_cond_d rfl (fun _ => ?_) (fun _ => ?_) | refine t_cond_i rfl (fun _ => ?_) (fun _ => ?_) | refine t_cond_j rfl (fun _ => ?_) (fun _ => ?_) | refine t_cond_s rfl (fun _ => ?_) (fun _ => ?_) | refine t_cond_n rfl (fun _ => ?_) (fun _ => ?_) | refine t_cond rfl (fun _ => ?_) (fun _ => ?_) | refine c_split_d rfl rfl (fun _ => ?_) (fun _ => ?_) | refine c_split_i rfl rfl (fun _ => ?_) (fun _ => ?_) | refine c_split_j rfl rfl (fun _ => ?_) (fun _ => ?_) | refine c_split_s rfl rfl (fun _ => ?_) (fun _ => ?_) | refine c_split_n rfl rfl (fun _ => ?_) (fun _ => ?_)) <;> try (first | (rename_i hz; exact Bool.noConfusion (show true = false from hz)) | (rename_i hz; exact Bool.noConfusion (show false = true from hz)) | (exfalso; omega)))
      | refine r_val rfl rfl (by (first | (simp only [List.length_append, List.length_cons, List.length_nil]; omega) | omega | exact Nat.le_of_ble_eq_true rfl | (simp only [wrap_u8, IntKind.wrap_i64, IntKind.wrap_i32, wrap_u32', wrap_u64', InI]; (repeat' refine And.intro ?_ ?_) <;> omega) | ((repeat' refine And.intro ?_ ?_) <;> first | omega | rfl | exact Nat.le_refl _ | exact Nat.le_of_ble_eq_true rfl | exact bytesF_one _) | (simp_all; done) | (simp_all; omega))) ?_ | refine r_gval rfl rfl rfl rfl (by (first | (simp only [List.length_append, List.length_cons, List.length_nil]; omega) | omega | exact Nat.le_of_ble_eq_true rfl | (simp only [wrap_u8, IntKind.wrap_i64, IntKind.wrap_i32, wrap_u32', wrap_u64', InI]; (repeat' refine And.intro ?_ ?_) <;> omega) | ((repeat' refine And.intro ?_ ?_) <;> first | omega | rfl | exact Nat.le_refl _ | exact Nat.le_of_ble_eq_true rfl | exact bytesF_one _) | (simp_all; done) | (simp_all; omega))) ?_
      | refine r_obj rfl rfl (by (first | (simp only [List.length_append, List.length_cons, List.length_nil]; omega) | omega | exact Nat.le_of_ble_eq_true rfl | (simp only [wrap_u8, IntKind.wrap_i64, IntKind.wrap_i32, wrap_u32', wrap_u64', InI]; (repeat' refine And.intro ?_ ?_) <;> omega) | ((repeat' refine And.intro ?_ ?_) <;> first | omega | rfl | exact Nat.le_refl _ | exact Nat.le_of_ble_eq_true rfl | exact bytesF_one _) | (simp_all; done) | (simp_all; omega))) ?_ | refine r_sto rfl (by (first | (simp only [List.length_append, List.length_cons, List.length_nil]; omega) | omega | exact Nat.le_of_ble_eq_true rfl | (simp only [wrap_u8, IntKind.wrap_i64, IntKind.wrap_i32, wrap_u32', wrap_u64', InI]; (repeat' refine And.intro ?_ ?_) <;> omega) | ((repeat' refine And.intro ?_ ?_) <;> first | omega | rfl | exact Nat.le_refl _ | exact Nat.le_of_ble_eq_true rfl | exact bytesF_one _) | (simp_all; done) | (simp_all; omega))) ?_ | refine r_gobj rfl rfl rfl rfl (by (first | (simp only [List.length_append, List.length_cons, List.length_nil]; omega) | omega | exact Nat.le_of_ble_eq_true rfl | (simp only [wrap_u8, IntKind.wrap_i64, IntKind.wrap_i32, wrap_u32', wrap_u64', InI]; (repeat' refine And.intro ?_ ?_) <;> omega) | ((repeat' refine And.intro ?_ ?_) <;> first | omega | rfl | exact Nat.le_refl _ | exact Nat.le_of_ble_eq_true rfl | exact bytesF_one _) | (simp_all; done) | (simp_all; omega))) ?_
      | refine e_hit rfl ?_ | refine e_miss rfl ?_
      | refine ⟨by kernel_rfl, ?_⟩ | refine x_end rfl ?_ | refine r_call (f := 10) rfl rfl Tryd.call10 rfl c1 ?_ | ((with_reducible refine c_grd ?_); (fail_if_success (refine c_lit true rfl rfl rfl ?_)); (fail_if_success (refine c_lit false rfl rfl rfl ?_)); refine c_split rfl rfl (fun _ => ?_) (fun _ => ?_)))
    all_goals exact ⟨i + 1, by omega, by omega, ⟨rfl, congrArg D.s e, rfl, trivial⟩, ⟨rfl, trivial⟩, rfl, by rw [hX]; intro k hk; cases hk⟩
  · obtain rfl : i = f.paths.length := by omega
    clear hp hpl
    have ht : (f.paths.map parT).take f.paths.length = f.paths.map parT := List.take_of_length_le (by simp)
    have hlen2 := hlen f.paths.length
    rw [ht] at hlen2 ⊢
    repeat' (first
      | with_reducible refine t_seq ?_ | with_reducible refine t_region ?_ | with_reducible refine c_nil ?_ | with_reducible refine n_then ?_
      | with_reducible refine t_ret ?_ | with_reducible refine t_skip ?_ | with_reducible refine t_exit ?_ | with_reducible refine t_block ?_
      | with_reducible refine n_block ?_ | with_reducible refine e_then ?_ | with_reducible refine x_then ?_ | with_reducible refine x_block ?_ | with_reducible refine t_draw ?_
      | refine r_val rfl rfl True.intro ?_ | refine r_gskip rfl rfl rfl ?_ | refine r_gskip2 rfl rfl rfl ?_ | refine r_gval rfl rfl rfl rfl True.intro ?_
      | refine t_true rfl ?_ | refine t_false rfl ?_
      | ((first | refine t_cond_d rfl (fun _ => ?_) (fun _ => ?_) | refine t_cond_i rfl (fun _ => ?_) (fun _ => ?_) | refine t_cond_j rfl (fun _ => ?_) (fun _ => ?_) | refine t_cond_s rfl (fun _ => ?_) (fun _ => ?_) | refine t_cond_n rfl (fun _ => ?_) (fun _ => ?_) | refine t_cond rfl (fun _ => ?_) (fun _ => ?_) | refine c_split_d rfl rfl (fun _ => ?_) (fun _ => ?_) | refine c_split_i rfl rfl (fun _ => ?_) (fun _ => ?_) | refine c_split_j rfl rfl (fun _ => ?_) (fun _ => ?_) | refine c_split_s rfl rfl (fun _ => ?_) (fun _ => ?_) | refine c_split_n rfl rfl (fun _ => ?_) (fun _ => ?_)) <;> try (first | (rename_i hz; exact Bool.noConfusion (show true = false from hz)) | (rename_i hz; exact Bool.noConfusion (show false = true from hz)) | (exfalso; omega)))
      | refine r_val rfl rfl (by (first | omega | exact Nat.le_of_ble_eq_true rfl | (simp only [wrap_u8, IntKind.wrap_i64, IntKind.wrap_i32, wrap_u32', wrap_u64', InI]; (repeat' refine And.intro ?_ ?_) <;> omega) | ((repeat' refine And.intro ?_ ?_) <;> first | omega | rfl | exact Nat.le_refl _ | exact Nat.le_of_ble_eq_true rfl | exact bytesF_one _) | (simp_all; done) | (simp_all; omega))) ?_ | refine r_gval rfl rfl rfl rfl (by (first | omega | exact Nat.le_of_ble_eq_true rfl | (simp only [wrap_u8, IntKind.wrap_i64, IntKind.wrap_i32, wrap_u32', wrap_u64', InI]; (repeat' refine And.intro ?_ ?_) <;> omega) | ((repeat' refine And.intro ?_ ?_) <;> first | omega | rfl | exact Nat.le_refl _ | exact Nat.le_of_ble_eq_true rfl | exact bytesF_one _) | (simp_all; done) | (simp_all; omega))) ?_
      | refine r_obj rfl rfl (by (first | omega | exact Nat.le_of_ble_eq_true rfl | (simp only [wrap_u8, IntKind.wrap_i64, IntKind.wrap_i32, wrap_u32', wrap_u64', InI]; (repeat' refine And.intro ?_ ?_) <;> omega) | ((repeat' refine And.intro ?_ ?_) <;> first | omega | rfl | exact Nat.le_refl _ | exact Nat.le_of_ble_eq_true rfl | exact bytesF_one _) | (simp_all; done) | (simp_all; omega))) ?_ | refine r_sto rfl (by (first | omega | exact Nat.le_of_ble_eq_true rfl | (simp only [wrap_u8, IntKind.wrap_i64, IntKind.wrap_i32, wrap_u32', wrap_u64', InI]; (repeat' refine And.intro ?_ ?_) <;> omega) | ((repeat' refine And.intro ?_ ?_) <;> first | omega | rfl | exact Nat.le_refl _ | exact Nat.le_of_ble_eq_true rfl | exact bytesF_one _) | (simp_all; done) | (simp_all; omega))) ?_ | refine r_gobj rfl rfl rfl rfl (by (first | omega | exact Nat.le_of_ble_eq_true rfl | (simp only [wrap_u8, IntKind.wrap_i64, IntKind.wrap_i32, wrap_u32', wrap_u64', InI]; (repeat' refine And.intro ?_ ?_) <;> omega) | ((repeat' refine And.intro ?_ ?_) <;> first | omega | rfl | exact Nat.le_refl _ | exact Nat.le_of_ble_eq_true rfl | exact bytesF_one _) | (simp_all; done) | (simp_all; omega))) ?_
      | refine e_hit rfl ?_ | refine e_miss rfl ?_
      | refine ⟨by kernel_rfl, ?_⟩ | refine x_end rfl ?_ | ((with_reducible refine c_grd ?_); (fail_if_success (refine c_lit true rfl rfl rfl ?_)); (fail_if_success (refine c_lit false rfl rfl rfl ?_)); refine c_split rfl rfl (fun _ => ?_) (fun _ => ?_)))
    refine T.loop hL (fun j : Nat => [(1, .pv 1 0), (3, .s (Lib.join (L0 ++ f.paths.map parT ++ (f.ats.map attT).take j) [32])), (5, .i .i64 j)])
      (fun j => [(1, .var (featC f))]) (fun j => j ≤ f.ats.length) (fun j => f.ats.length - j) 0
      (Nat.zero_le _) ⟨⟨rfl, by simp; rfl, rfl, trivial⟩, ⟨rfl, trivial⟩, rfl, by rw [hX]; intro k hk; cases hk⟩ ?_
    intro j g2
    by_cases hj : j < f.ats.length
    · obtain ⟨a1, a2, a3, a4⟩ := hf.aso j
      have c1 := rquote_ctr (f.ats.getD j dA).1 a1
      have c2 := rvalue_ctrR (f.ats.getD j dA).2.1 (f.ats.getD j dA).2.2.1 a2 (f.ats.getD j dA).2.2.2.toNat (by omega)
      rw [Int.toNat_of_nonneg a3] at c2
      have l1 := quoteL_len (f.ats.getD j dA).1
      have l2 := valT_len (f.ats.getD j dA).2.1 (f.ats.getD j dA).2.2.1 (f.ats.getD j dA).2.2.2.toNat a2 (by omega)
      have l3 := hlen2 j
      have e : (((Lib.join (L0 ++ f.paths.map parT ++ (f.ats.map attT).take j) [32] ++ [32]) ++ quoteL (f.ats.getD j dA).1) ++ [61]) ++ valT (f.ats.getD j dA).2.1 (f.ats.getD j dA).2.2.1 (f.ats.getD j dA).2.2.2.toNat = Lib.join (L0 ++ f.paths.map parT ++ (f.ats.map attT).take (j + 1)) [32] := by
        rw [takeM_snoc attT f.ats dA hj, ← List.append_assoc]
        refine join_cat _ _ _ (by simp; omega) ?_
        unfold attT
        simp
      generalize Lib.join (L0 ++ f.paths.map parT ++ (f.ats.map attT).take j) [32] = A at *
      generalize quoteL (f.ats.getD j dA).1 = Q1 at *
      generalize valT (f.ats.getD j dA).2.1 (f.ats.getD j dA).2.2.1 (f.ats.getD j dA).2.2.2.toNat = V1 at *
      repeat' (first
        | with_reducible refine t_seq ?_ | with_reducible refine t_region ?_ | with_reducible refine c_nil ?_ | with_reducible refine n_then ?_
        | with_reducible refine t_ret ?_ | with_reducible refine t_skip ?_ | with_reducible refine t_exit ?_ | with_reducible refine t_block ?_
        | with_reducible refine n_block ?_ | with_reducible refine e_then ?_ | with_reducible refine x_then ?_ | with_reducible refine x_block ?_ | with_reducible refine t_draw ?_
        | refine r_val rfl rfl True.intro ?_ | refine r_gskip rfl rfl rfl ?_ | refine r_gskip2 rfl rfl rfl ?_ | refine r_gval rfl rfl rfl rfl True.intro ?_
        | refine t_true rfl ?_ | refine t_false rfl ?_
        | ((first | refine t_cond_d rfl (fun _ => ?_) (fun _ => ?_) | refine t_cond_i rfl (fun _ => ?_) (fun _ => ?_) | refine t_cond_j rfl (fun _ => ?_) (fun _ => ?_) | refine t_cond_s rfl (fun _ => ?_) (fun _ => ?_) | refine t_cond_n rfl (fun _ => ?_) (fun _ => ?_) | refine t_cond rfl (fun _ => ?_) (fun _ => ?_) | refine c_split_d rfl rfl (fun _ => ?_) (fun _ => ?_) | refine c_split_i rfl rfl (fun _ => ?_) (fun _ => ?_) | refine c_split_j rfl rfl (fun _ => ?_) (fun _ => ?_) | refine c_split_s rfl rfl (fun _ => ?_) (fun _ => ?_) | refine c_split_n rfl rfl (fun _ => ?_) (fun _ => ?_)) <;> try (first | (rename_i hz; exact Bool.noConfusion (show true = false from hz)) | (rename_i hz; exact Bool.noConfusion (show false = true from hz)) | (exfalso; omega)))
        | refine r_val rfl rfl (by (first | (simp only [List.length_append, List.length_cons, List.length_nil]; omega) | omega | exact Nat.le_of_ble_eq_true rfl | (simp only [wrap_u8, IntKind.wrap_i64, IntKind.wrap_i32, wrap_u32', wrap_u64', InI]; (repeat' refine And.intro ?_ ?_) <;> omega) | ((repeat' refine And.intro ?_ ?_) <;> first | omega | rfl | exact Nat.le_refl _ | exact Nat.le_of_ble_eq_true rfl | exact bytesF_one _) | (simp_all; done) | (simp_all; omega))) ?_ | refine r_gval rfl rfl rfl rfl (by (first | (simp only [List.length_append, List.length_cons, List.length_nil]; omega) | omega | exact Nat.le_of_ble_eq_true rfl | (simp only [wrap_u8, IntKind.wrap_i64, IntKind.wrap_i32, wrap_u32', wrap_u64', InI]; (repeat' refine And.intro ?_ ?_) <;> omega) | ((repeat' refine And.intro ?_ ?_) <;> first | omega | rfl | exact Nat.le_refl _ | exact Nat.le_of_ble_eq_true rfl | exact bytesF_one _) | (simp_all; done) | (simp_all; omega))) ?_
        | refine r_obj rfl rfl (by (first | (simp only [List.length_append, List.length_cons, List.length_nil]; omega) | omega | exact Nat.le_of_ble_eq_true rfl | (simp only [wrap_u8, IntKind.wrap_i64, IntKind.wrap_i32, wrap_u32', wrap_u64', InI]; (repeat' refine And.intro ?_ ?_) <;> omega) | ((repeat' refine And.intro ?_ ?_) <;> first | omega | rfl | exact Nat.le_refl _ | exact Nat.le_of_ble_eq_true rfl | exact bytesF_one _) | (simp_all; done) | (simp_all; omega))) ?_ | refine r_sto rfl (by (first | (simp only [List.length_append, List.length_cons, List.length_nil]; omega) | omega | exact Nat.le_of_ble_eq_true rfl | (simp only [wrap_u8, IntKind.wrap_i64, IntKind.wrap_i32, wrap_u32', wrap_u64', InI]; (repeat' refine And.intro ?_ ?_) <;> omega) | ((repeat' refine And.intro ?_ ?_) <;> first | omega | rfl | exact Nat.le_refl _ | exact Nat.le_of_ble_eq_true rfl | exact bytesF_one _) | (simp_all; done) | (simp_all; omega))) ?_ | refine r_gobj rfl rfl rfl rfl (by (first | (simp only [List.length_append, List.length_cons, List.length_nil]; omega) | omega | exact Nat.le_of_ble_eq_true rfl | (simp only [wrap_u8, IntKind.wrap_i64, IntKind.wrap_i32, wrap_u32', wrap_u64', InI]; (repeat' refine And.intro ?_ ?_) <;> omega) | ((repeat' refine And.intro ?_ ?_) <;> first | omega | rfl | exact Nat.le_refl _ | exact Nat.le_of_ble_eq_true rfl | exact bytesF_one _) | (simp_all; done) | (simp_all; omega))) ?_
        | refine e_hit rfl ?_ | refine e_miss rfl ?_
        | refine ⟨by kernel_rfl, ?_⟩ | refine x_end rfl ?_ | refine r_call (f := 34) rfl rfl Tryd.call34 rfl c1 ?_ | refine r_call (f := 12) rfl rfl Tryd.call12 rfl c2 ?_ | ((with_reducible refine c_grd ?_); (fail_if_success (refine c_lit true rfl rfl rfl ?_)); (fail_if_success (refine c_lit false rfl rfl rfl ?_)); refine c_split rfl rfl (fun _ => ?_) (fun _ => ?_)))
      all_goals exact ⟨j + 1, by omega, by omega, ⟨rfl, congrArg D.s e, rfl, trivial⟩, ⟨rfl, trivial⟩, rfl, by rw [hX]; intro k hk; cases hk⟩
    · obtain rfl : j = f.ats.length := by omega
      have ht2 : (f.ats.map attT).take f.ats.length = f.ats.map attT := List.take_of_length_le (by simp)
      rw [ht2]
      have e : featT f = Lib.join (L0 ++ f.paths.map parT ++ f.ats.map attT) [32] := by
        unfold featT
        rw [hL0]
      rw [e]
      repeat' (first
        | with_reducible refine t_seq ?_ | with_reducible refine t_region ?_ | with_reducible refine c_nil ?_ | with_reducible refine n_then ?_
        | with_reducible refine t_ret ?_ | with_reducible refine t_skip ?_ | with_reducible refine t_exit ?_ | with_reducible refine t_block ?_
        | with_reducible refine n_block ?_ | with_reducible refine e_then ?_ | with_reducible refine x_then ?_ | with_reducible refine x_block ?_ | with_reducible refine t_draw ?_
        | refine r_val rfl rfl True.intro ?_ | refine r_gskip rfl rfl rfl ?_ | refine r_gskip2 rfl rfl rfl ?_ | refine r_gval rfl rfl rfl rfl True.intro ?_
        | refine t_true rfl ?_ | refine t_false rfl ?_
        | ((first | refine t_cond_d rfl (fun _ => ?_) (fun _ => ?_) | refine t_cond_i rfl (fun _ => ?_) (fun _ => ?_) | refine t_cond_j rfl (fun _ => ?_) (fun _ => ?_) | refine t_cond_s rfl (fun _ => ?_) (fun _ => ?_) | refine t_cond_n rfl (fun _ => ?_) (fun _ => ?_) | refine t_cond rfl (fun _ => ?_) (fun _ => ?_) | refine c_split_d rfl rfl (fun _ => ?_) (fun _ => ?_) | refine c_split_i rfl rfl (fun _ => ?_) (fun _ => ?_) | refine c_split_j rfl rfl (fun _ => ?_) (fun _ => ?_) | refine c_split_s rfl rfl (fun _ => ?_) (fun _ => ?_) | refine c_split_n rfl rfl (fun _ => ?_) (fun _ => ?_)) <;> try (first | (rename_i hz; exact Bool.noConfusion (show true = false from hz)) | (rename_i hz; exact Bool.noConfusion (show false = true from hz)) | (exfalso; omega)))
        | refine r_val rfl rfl (by (first | omega | exact Nat.le_of_ble_eq_true rfl | (simp only [wrap_u8, IntKind.wrap_i64, IntKind.wrap_i32, wrap_u32', wrap_u64', InI]; (repeat' refine And.intro ?_ ?_) <;> omega) | ((repeat' refine And.intro ?_ ?_) <;> first | omega | rfl | exact Nat.le_refl _ | exact Nat.le_of_ble_eq_true rfl | exact bytesF_one _) | (simp_all; done) | (simp_all; omega))) ?_ | refine r_gval rfl rfl rfl rfl (by (first | omega | exact Nat.le_of_ble_eq_true rfl | (simp only [wrap_u8, IntKind.wrap_i64, IntKind.wrap_i32, wrap_u32', wrap_u64', InI]; (repeat' refine And.intro ?_ ?_) <;> omega) | ((repeat' refine And.intro ?_ ?_) <;> first | omega | rfl | exact Nat.le_refl _ | exact Nat.le_of_ble_eq_true rfl | exact bytesF_one _) | (simp_all; done) | (simp_all; omega))) ?_
        | refine r_obj rfl rfl (by (first | omega | exact Nat.le_of_ble_eq_true rfl | (simp only [wrap_u8, IntKind.wrap_i64, IntKind.wrap_i32, wrap_u32', wrap_u64', InI]; (repeat' refine And.intro ?_ ?_) <;> omega) | ((repeat' refine And.intro ?_ ?_) <;> first | omega | rfl | exact Nat.le_refl _ | exact Nat.le_of_ble_eq_true rfl | exact bytesF_one _) | (simp_all; done) | (simp_all; omega))) ?_ | refine r_sto rfl (by (first | omega | exact Nat.le_of_ble_eq_true rfl | (simp only [wrap_u8, IntKind.wrap_i64, IntKind.wrap_i32, wrap_u32', wrap_u64', InI]; (repeat' refine And.intro ?_ ?_) <;> omega) | ((repeat' refine And.intro ?_ ?_) <;> first | omega | rfl | exact Nat.le_refl _ | exact Nat.le_of_ble_eq_true rfl | exact bytesF_one _) | (simp_all; done) | (simp_all; omega))) ?_ | refine r_gobj rfl rfl rfl rfl (by (first | omega | exact Nat.le_of_ble_eq_true rfl | (simp only [wrap_u8, IntKind.wrap_i64, IntKind.wrap_i32, wrap_u32', wrap_u64', InI]; (repeat' refine And.intro ?_ ?_) <;> omega) | ((repeat' refine And.intro ?_ ?_) <;> first | omega | rfl | exact Nat.le_refl _ | exact Nat.le_of_ble_eq_true rfl | exact bytesF_one _) | (simp_all; done) | (simp_all; omega))) ?_
        | refine e_hit rfl ?_ | refine e_miss rfl ?_
        | refine ⟨by kernel_rfl, ?_⟩ | refine x_end rfl ?_ | ((with_reducible refine c_grd ?_); (fail_if_success (refine c_lit true rfl rfl rfl ?_)); (fail_if_success (refine c_lit false rfl rfl rfl ?_)); refine c_split rfl rfl (fun _ => ?_) (fun _ => ?_)))
      all_goals rfl

end Go.Proofs.YtinjdlckhmkmaaaDoor.Flow

/-
  FLOW, PART V: A BUILDER OF TEXTS: a variable of two cells, of which the first is nil or its own address, and the second a row of bytes.
-/
namespace Go.Proofs.YtinjdlckhmkmaaaDoor.Flow
open Go

section
variable {P : Program} {X : Ctx} {n : Nat} {O : Nat → Option Own}

/-- A new builder. -/
theorem bld_ok {w : World} {S : Cells} {r : Rho} {zv : Value} (e : TypeId) (hH : Hist X w S) (hI : Inv X w S r O) (hv : Rel S w r (.ag [.v (.pointer none), .nilS]) zv) {k : Nat} (hk : O k = none) :
    ∃ S' r', Rel S' (w.alloc (.cells zv.cells e)) r' (.pv k 0) (.pointer (some ⟨w.heap.size, 0, none⟩)) ∧ Hist X (w.alloc (.cells zv.cells e)) S' ∧
      Inv X (w.alloc (.cells zv.cells e)) S' r' (updO O [(k, .bld e .nilS)]) ∧ (∀ b o, S b o → S' b o) ∧
      (∀ b o, S b o → (w.alloc (.cells zv.cells e)).cell? ⟨b, o, none⟩ = w.cell? ⟨b, o, none⟩) ∧ RhoLe r r' := by
  have hc := Chg.alloc w S hH.valid (.cells zv.cells e)
  have hr : RhoLe r (updR r k (.blk w.heap.size)) := RhoLe.new (hI.dom k hk)
  obtain ⟨hz, hcell⟩ := rel_cells hv rfl
  have hk0 : updR r k (.blk w.heap.size) k = some (.blk w.heap.size) := by simp [updR]
  refine ⟨S, updR r k (.blk w.heap.size), .pv _ k 0 _ hk0, ?_, ?_, fun _ _ h => h, hc.cell, hr⟩
  · exact hH.chg hc (fun b hb => by cases hb) (fun _ _ h => h) (fun b o h => .inl h)
  · refine hI.put hc (fun _ _ h => h) hr k _ (.blk w.heap.size) ?_ hk0 (fun j hj => by simp [updR, hj]) (fun b hb => ?_) (fun b hb => by cases hb) (fun b o h => .inl h)
    · refine ⟨w.heap.size, zv.cells, e, hk0, heap_alloc_new w _, hz, .inl ⟨?_, rfl⟩, ⟨(hcell 1 (by decide)).mono (fun _ _ h => h) hc.cell _ hr, rfl⟩, fun o ho => ?_⟩
      · have h0 : Rel S w r (.v (.pointer none)) (zv.cells.getD 0 undef) := hcell 0 (by decide)
        generalize zv.cells.getD 0 undef = v0 at h0
        cases h0
        rfl
      · have := hH.valid _ _ ho; omega
    · simp only [Loc.block, Option.some.injEq] at hb
      subst hb
      exact .inl ⟨Nat.le_refl _, .inl hH.size⟩

variable {o : Oper} {fr : Fr} {ow : Ow} {t k : Nat} {ty : TypeId} {x : Operand}

theorem bld_step {B' : Tb} (hB : tb P = B') (ho : o.op = .alloc ty) (hz : B'.zr ty = some (.ag [.v (.pointer none), .nilS])) (ht : look t ow = none) (hd : dstOk o.dst n) :
    ∀ F' O', (∀ y ∈ o.op.operands.toList, evF F' y = evF (fF fr) y) → (∀ j ∈ [t], O' j = fO ow j) → StepAt P X n o F' O' (.pv t 0) [(t, .bld ty .nilS)] := by
  intro F' O' he hO
  have hz' : zeroD P ty = some (.ag [.v (.pointer none), .nilS]) := by subst hB; exact hz
  obtain ⟨i, zv, h1, h2, h3⟩ := zeroD_spec hz'
  refine stepAt_of hd fun a w S r hH hI hr => ?_
  have hk : O' t = none := (hO t (by simp)).trans ht
  have hv := ofVal_rel S w r zv
  rw [← h3] at hv
  obtain ⟨S', r', g1, g2, g3, g4, g5, g6⟩ := bld_ok ty hH hI hv hk
  refine ⟨_, _, S', r', .inl ?_, g1, g2, g3, g4, g5, g6⟩
  simp [execOp, ho, Instr.alloc, zeroValue, typeInfo, h1, h2, newVar, newRow]

/-- A builder's nil slice is taken for an empty row of the call's own. -/
theorem T.adoptB {c : Code} {Q : Exit → Fr → Ow → Prop} (v k : Nat) (e T0 : TypeId) (f : Nat → List D) (hv : look v ow = some (.bld T0 .nilS)) (hk : look k ow = none)
    (h : T P X n c fr ((v, .bld T0 (.gs k 1 0 f)) :: (k, .row e 1 0) :: ow) Q) : T P X n c fr ow Q := fun a w hr => by
  refine h a w ?_
  obtain ⟨S, r, hH, hI, hF, hd, hn, hρ⟩ := hr
  have hle : RhoLe r (updR r k (.row (.slice none 0 0) 0)) := RhoLe.new (hI.dom k hk)
  have hk0 : updR r k (.row (.slice none 0 0) 0) k = some (.row (.slice none 0 0) 0) := by simp [updR]
  have hc : Chg w w S none := ⟨rfl, rfl, rfl, Nat.le_refl _, fun _ _ _ => rfl, fun _ _ _ => rfl⟩
  have hI2 : Inv X w S (updR r k (.row (.slice none 0 0) 0)) (fO ((k, .row e 1 0) :: ow)) := by
    rw [fO_cons]
    exact hI.put hc (fun _ _ h => h) hle k _ (.row (.slice none 0 0) 0) ⟨_, hk0, .inl ⟨rfl, rfl⟩⟩ hk0 (fun j hj => by simp [updR, hj]) (fun b hb => by simp [Loc.block] at hb) (fun b hb => by cases hb) (fun _ _ h => .inl h)
  have hvk : v ≠ k := fun e => by subst e; rw [hv] at hk; cases hk
  have hv2 : fO ((k, .row e 1 0) :: ow) v = some (.bld T0 .nilS) := by
    rw [fO_cons]
    show (if v = k then _ else fO ow v) = _
    rw [if_neg hvk]
    exact hv
  obtain ⟨b, cur, e0, h1, h2, h3, h4, h5, h6⟩ := hI2.obj v _ hv2
  refine ⟨S, updR r k (.row (.slice none 0 0) 0), hH, ?_, fun u => (hF u).mono (fun _ _ h => h) (fun _ _ _ => rfl) _ hle, hd, hn, hρ.trans hle⟩
  rw [fO_cons]
  refine hI2.put hc (fun _ _ h => h) (RhoLe.refl _) v _ (.blk b) ⟨b, cur, e0, h1, h2, h3, h4, ⟨?_, rfl⟩, h6⟩ h1 (fun _ _ => rfl) (fun b' hb' => .inr ⟨_, h1, hb'⟩) (fun b hb => by cases hb) (fun _ _ h => .inl h)
  have h7 := h5.1
  generalize cur.getD 1 undef = vj at h7 ⊢
  cases h7
  exact .gs _ k 1 0 f _ _ 0 (.sl _ _ _ _ none 0 (fun _ _ => undef) (Nat.le_refl _) (by unfold maxLen; omega) (fun i hi => by omega) (fun i j hi => by omega) (fun i j hi => by omega)) hk0 (Nat.le_refl _) (fun _ => .inl rfl)

theorem setCell_heap (w : World) (b : Nat) (u : Value) (cur : Array Value) (e : TypeId) (fz : Nat × Nat) (h : w.heap[b]? = some (.cells cur e fz)) : (w.setCell ⟨b, 0, none⟩ u).heap[b]? = some (.cells (cur.setIfInBounds 0 u) e fz) := by
  simp only [World.setCell, Array.getElem?_modify, if_true, h, Option.map_some]
  rfl

theorem Chg.setCell (w : World) (S : Cells) (b : Nat) (u : Value) (hS : ∀ o, ¬ S b o) : Chg w (w.setCell ⟨b, 0, none⟩ u) S (some b) where
  os := rfl
  tape := rfl
  output := rfl
  size := by simp [World.setCell]
  block := fun k _ hne => RowKit.Below.heap_setCell w _ u k (fun e => hne (by rw [e]))
  cell := fun b' o hb => World.cell?_of_block (RowKit.Below.heap_setCell w _ u b' (fun e => hS o (by rw [← show b' = b from e]; exact hb)))

/-- A builder's first look at itself: it holds its own address. -/
theorem copy_of {f : FuncId} {T0 : TypeId} {d : D} {lo : Ow}
    (hu : ∀ (b : Nat) (w : World), w.cell? ⟨b, 0, none⟩ = some (.pointer (some ⟨b, 0, none⟩)) → Calls P f #[.pointer (some ⟨b, 0, none⟩)] w fun e w' => e = .returned (.tuple #[]) ∧ w' = w)
    (hf : ∀ (b : Nat) (w : World), w.cell? ⟨b, 0, none⟩ = some (.pointer none) → w.shape? b = some (T0, 2) → w.frozen? ⟨b, 0, none⟩ = false →
      Calls P f #[.pointer (some ⟨b, 0, none⟩)] w fun e w' => e = .returned (.tuple #[]) ∧ w' = w.setCell ⟨b, 0, none⟩ (.pointer (some ⟨b, 0, none⟩))) :
    CtrO P f [.pv k 0] ((k, .bld T0 d) :: lo) (.tu []) ((k, .var [.pv k 0, d]) :: lo) := by
  intro X vs hids hH hI hn hr
  have h0 := hr 0 (by simp)
  have e1 : vs = #[vs.getD 0 undef] := by
    obtain ⟨l⟩ := vs
    match l, hn with
    | [a], _ => rfl
  rw [e1]
  generalize vs.getD 0 undef = v0 at *
  have hO : fO ((k, .bld T0 d) :: lo) k = some (.bld T0 d) := by
    rw [fO_cons]
    exact if_pos rfl
  obtain ⟨b, cur, e, g1, g2, g3, g4, g5, g6⟩ := hI.obj k _ hO
  have h0 : Rel X.S0 X.w0 X.r0 (.pv k 0) v0 := h0
  cases h0 with
  | pv _ _ _ b' hb =>
  rw [g1] at hb
  cases hb
  have hup : ∀ (w' : World) (cur' : Array Value) (g : Option Nat), (g = none ∨ g = some b) → Chg X.w0 w' X.S0 g → w'.heap[b]? = some (.cells cur' e (0, 0)) → cur'.size = 2 → cur'.getD 0 undef = .pointer (some ⟨b, 0, none⟩) → cur'.getD 1 undef = cur.getD 1 undef →
      Hist X w' X.S0 ∧ Inv X w' X.S0 X.r0 (fO ((k, .var [.pv k 0, d]) :: lo)) := by
    intro w' cur' g hg hc q1 q2 q3 q4
    have hgb : ∀ b', g = some b' → b' = b := fun b' h => by
      rcases hg with rfl | rfl
      · cases h
      · cases h; rfl
    refine ⟨hH.chg hc (fun b' hb' => by rw [hgb b' hb']; exact hI.low k _ b g1 rfl) (fun _ _ h => h) (fun _ _ h => .inl h), ?_⟩
    have hEq : fO ((k, Own.var [.pv k 0, d]) :: lo) = fun j => if j = k then some (Own.var [.pv k 0, d]) else fO ((k, Own.bld T0 d) :: lo) j := by
      rw [fO_cons, fO_cons]
      funext j
      show (if j = k then _ else _) = if j = k then _ else (if j = k then _ else _)
      by_cases hj : j = k
      · rw [if_pos hj, if_pos hj]
      · rw [if_neg hj, if_neg hj, if_neg hj]
    rw [hEq]
    refine hI.put hc (fun _ _ h => h) (RhoLe.refl _) k _ (.blk b) ?_ g1 (fun _ _ => rfl) (fun b' hb' => .inr ⟨_, g1, hb'⟩) (fun b' hb' => ⟨_, g1, by rw [hgb b' hb']; rfl⟩) (fun _ _ h => .inl h)
    refine ⟨b, cur', e, g1, q1, q2, fun j hj => ?_, g6⟩
    match j, hj with
    | 0, _ =>
      rw [q3]
      exact ⟨.pv _ k 0 b g1, rfl⟩
    | 1, _ =>
      rw [q4]
      exact ⟨g5.1.mono (fun _ _ h => h) hc.cell _ (RhoLe.refl _), g5.2⟩
  have hc0 : X.w0.cell? ⟨b, 0, none⟩ = some (cur.getD 0 undef) := by
    rw [Lib.cell_of_heap g2]
    have : 0 < cur.size := by omega
    simp [Array.getD_eq_getD_getElem?, this]
  rcases g4 with ⟨g4, rfl⟩ | g4
  · refine (hf b X.w0 (by rw [hc0, g4]) (by simp [World.shape?, g2, g3]) (by simp [World.frozen?, g2])).mono ?_
    rintro e' w' ⟨rfl, rfl⟩
    have hc := Chg.setCell X.w0 X.S0 b (.pointer (some ⟨b, 0, none⟩)) g6
    obtain ⟨q1, q2⟩ := hup _ _ _ (.inr rfl) hc (setCell_heap _ b _ cur e (0, 0) g2) (by simpa using g3) (by simp [Array.getD_eq_getD_getElem?, g3]) (by simp [Array.getD_eq_getD_getElem?, Array.getElem?_setIfInBounds])
    exact ⟨_, X.S0, X.r0, rfl, .tu _ _ _ rfl (fun j hj => absurd hj (by simp)), q1, q2, RhoLe.refl _⟩
  · refine (hu b X.w0 (by rw [hc0, g4])).mono ?_
    rintro e' w' ⟨rfl, rfl⟩
    obtain ⟨q1, q2⟩ := hup _ cur none (.inl rfl) ⟨rfl, rfl, rfl, Nat.le_refl _, fun _ _ _ => rfl, fun _ _ _ => rfl⟩ g2 g3 g4 rfl
    exact ⟨_, X.S0, X.r0, rfl, .tu _ _ _ rfl (fun j hj => absurd hj (by simp)), q1, q2, RhoLe.refl _⟩


theorem bload_step {B' : Tb} {d : D} {T0 : TypeId} (hB : tb P = B') (ho : o.op = .load ty x) (hz : B'.sz ty = some (1, false)) (hx : ev fr x = .pv k 1) (hk : look k ow = some (.bld T0 d)) (hd : dstOk o.dst n) :
    ∀ F' O', (∀ y ∈ o.op.operands.toList, evF F' y = evF (fF fr) y) → (∀ j ∈ [k], O' j = fO ow j) → StepAt P X n o F' O' d [] := by
  intro F' O' he hO
  have hz' : szOf P ty = some (1, false) := by subst hB; exact hz
  refine stepAt_of hd fun a w S r hH hI hr => ?_
  have hx' := hr x
  rw [he x (by simp [ho, Op.operands]), evF_fF, hx] at hx'
  have hk' : O' k = some (.bld T0 d) := (hO k (by simp)).trans hk
  obtain ⟨b, cur, e, g1, g2, g3, g4, g5, g6⟩ := hI.obj k _ hk'
  generalize hv : a.eval x = vx at hx'
  cases hx' with
  | pv _ _ _ b' hb =>
    rw [g1] at hb
    cases hb
    obtain ⟨v, q1, q2⟩ := run_load_part (P := P) (S := S) (r := r) (w := w) (t := ty) (z := (1, false)) (cs := [.any, d]) (o := 0) (b := b) (off := 1) (c := fun j => cur.getD j undef) hz' (by show 1 < 2; omega) (fun j hj => by
      rw [Nat.zero_add, cell_of_row w b j cur e (0, 0) g2]
      have : j < cur.size := by rw [g3]; exact hj
      simp [Array.getD_eq_getD_getElem?, this]) (fun j hj => match j, hj with
        | 0, _ => .any ..
        | 1, _ => g5.1)
    rw [Nat.zero_add] at q1
    exact ⟨v, w, S, r, .inl (by simp [execOp, ho, hv, q1]), q2, hH, hI, fun _ _ h => h, fun _ _ _ => rfl, RhoLe.refl r⟩

/-- Where a row of bytes lies. -/
theorem sdata_step {e : TypeId} {L : Nat} {f : Nat → List D} {ts : Array TypeId} (ho : o.op = .call { callee := .builtin .unsafeSliceData, args := #[x], argTypes := ts }) (hx : ev fr x = .gs k 1 L f) (hk : look k ow = some (.row e 1 L)) (hL : 0 < L) (hd : dstOk o.dst n) :
    ∀ F' O', (∀ y ∈ o.op.operands.toList, evF F' y = evF (fF fr) y) → (∀ j ∈ [k], O' j = fO ow j) → StepAt P X n o F' O' (.ap k 1 L 0 0) [] := by
  intro F' O' he hO
  refine stepAt_of hd fun a w S r hH hI hr => ?_
  have hx' := hr x
  rw [he x (by simp [ho, Op.operands, Call.operands]), evF_fF, hx] at hx'
  have hk' : O' k = some (.row e 1 L) := (hO k (by simp)).trans hk
  obtain ⟨tv, g1, g2⟩ := hI.obj k _ hk'
  rcases g2 with ⟨_, g2⟩ | ⟨g, cap, cur, rfl, g3, g4, g5, g6, g7⟩
  · omega
  generalize hv : a.eval x = vx at hx'
  cases hx' with
  | gs _ _ _ _ _ _ tv' L' h1 h2 h3 h4 =>
    rw [g1] at h2
    cases h2
    have h5 : vx = .slice (some ⟨g, 0, none⟩) L cap := by
      rcases h4 rfl with h5 | ⟨h5, _⟩
      · exact h5
      · cases h5
    subst h5
    have hrun := Lib.run_unsafeSliceData_row (P := P) w ts o.type ⟨g, 0, none⟩ L cap (by omega)
    refine ⟨.pointer (some ⟨g, 0, none⟩), w, S, r, .inl ?_, .ap _ k 1 L 0 0 _ _ L g1 (Nat.le_refl _) (fun _ => ⟨g, cap, rfl, by simp⟩) ⟨g, 0, rfl⟩, hH, hI, fun _ _ h => h, fun _ _ _ => rfl, RhoLe.refl r⟩
    simp [execOp, ho, resolve, invoke, builtin, hv, hrun]

theorem cell_freeze (w : World) (a : Addr) (m : Nat) (p : Addr) : (w.freeze a m).cell? p = w.cell? p := by
  unfold World.freeze
  split
  · rfl
  · unfold World.cell?
    simp only [Array.getElem?_modify]
    by_cases h : a.block = p.block
    · rw [if_pos h]
      cases w.heap[p.block]? with
      | none => rfl
      | some o => cases o <;> rfl
    · rw [if_neg h]

theorem size_freeze (w : World) (a : Addr) (m : Nat) : (w.freeze a m).heap.size = w.heap.size := by
  unfold World.freeze
  split
  · rfl
  · simp

theorem block_freeze (w : World) (g o m j : Nat) (h : j ≠ g) : (w.freeze ⟨g, o, none⟩ m).heap[j]? = w.heap[j]? := by
  unfold World.freeze
  split
  · rfl
  · simp only [Array.getElem?_modify]
    rw [if_neg (fun e => h e.symm)]

theorem Chg.freeze (w : World) (S : Cells) (g m : Nat) : Chg w (w.freeze ⟨g, 0, none⟩ m) S (some g) where
  os := by unfold World.freeze; split <;> rfl
  tape := by unfold World.freeze; split <;> rfl
  output := by unfold World.freeze; split <;> rfl
  size := by rw [size_freeze]; omega
  block := fun j _ hne => block_freeze w g 0 m j (fun e => hne (by rw [e]))
  cell := fun b o _ => cell_freeze w _ m _

/-- The bytes of a builder's row, as a text: they are not written to any more. -/
theorem ustr_step {y : Operand} {pt it e T0 : TypeId} {kb : Nat} {l : List UInt8} (hp : P.underlying pt = some (.pointer e)) (hc : P.cellsOf e = 1) (ho : o.op = .call { callee := .builtin .unsafeString, args := #[x, y], argTypes := #[pt, it] })
    (hx : ev fr x = .ap k 1 l.length 0 0) (hy : ev fr y = .i .i64 l.length) (hk : look k ow = some (.row e 1 l.length)) (hb : look kb ow = some (.bld T0 (.gs k 1 l.length (bytesF l)))) (hne : kb ≠ k) (hL : 0 < l.length) (hd : dstOk o.dst n) :
    ∀ F' O', (∀ y ∈ o.op.operands.toList, evF F' y = evF (fF fr) y) → (∀ j ∈ [kb, k], O' j = fO ow j) → StepAt P X n o F' O' (.s l) [(k, .gone)] := by
  intro F' O' he hO
  refine stepAt_of hd fun a w S r hH hI hr => ?_
  have hx' := hr x
  have hy' := hr y
  rw [he x (by simp [ho, Op.operands, Call.operands]), evF_fF, hx] at hx'
  rw [he y (by simp [ho, Op.operands, Call.operands]), evF_fF, hy] at hy'
  have hk' : O' k = some (.row e 1 l.length) := (hO k (by simp)).trans hk
  have hb' : O' kb = some (.bld T0 (.gs k 1 l.length (bytesF l))) := (hO kb (by simp)).trans hb
  obtain ⟨tv, g1, g2⟩ := hI.obj k _ hk'
  rcases g2 with ⟨_, g2⟩ | ⟨g, cap, cur, rfl, g3, g4, g5, g6, g7⟩
  · omega
  obtain ⟨bb, bc, be, q1, q2, q3, q4, q5, q6⟩ := hI.obj kb _ hb'
  have q7 := q5.1
  generalize bc.getD 1 undef = vb at q7
  generalize hv : a.eval x = vx at hx'
  generalize hu : a.eval y = vy at hy'
  cases hy'
  cases hx' with
  | ap _ _ _ _ _ _ ad tv' L' h2 h3 h4 h5 =>
  rw [g1] at h2
  cases h2
  obtain ⟨g', cap', h6, h7⟩ := h4 rfl
  cases h6
  subst h7
  cases q7 with
  | gs _ _ _ _ _ _ tv2 L2 m1 m2 m3 m4 =>
  rw [g1] at m2
  cases m2
  have m5 : vb = .slice (some ⟨g, 0, none⟩) l.length cap := by
    rcases m4 rfl with h5 | ⟨h5, _⟩
    · exact h5
    · cases h5
  subst m5
  cases m1 with
  | sl _ _ _ _ _ _ c n1 n2 n3 n4 n5 =>
  have hcell : ∀ j xx, l[j]? = some xx → w.cell? ((⟨g, 0, none⟩ : Addr).add j) = some (.int .u8 xx.toNat) := fun j xx hj => by
    have hjl : j < l.length := (List.getElem?_eq_some_iff.1 hj).1
    obtain ⟨b, o', e1, _, e2⟩ := n4 j 0 hjl (by omega)
    cases e1
    have e3 := n5 j 0 hjl (by omega)
    have e4 : (bytesF l j).getD 0 .any = .i .u8 (xx.toNat : Int) := by
      simp [bytesF, List.getD_eq_getElem?_getD, hj]
    rw [e4] at e3
    generalize c j 0 = cv at e2 e3
    cases e3
    rw [Addr.add_lit]
    simpa using e2
  have hl0 : l ≠ [] := fun h => by rw [h] at hL; simp at hL
  have hrun := Lib.run_unsafeString_row (P := P) w pt it o.type e hp hc g cur.size (by simp [World.shape?, g3]) l hl0 (by omega) (by unfold maxLen at g5; omega) hcell
  have hch := Chg.freeze w S g l.length
  refine ⟨.string ⟨l.toArray⟩, w.freeze ⟨g, 0, none⟩ l.length, S, r, .inl ?_, .s .., ?_, ?_, fun _ _ h => h, hch.cell, RhoLe.refl r⟩
  · have e0 : (⟨g, 0 * 1 + 0, none⟩ : Addr) = ⟨g, 0, none⟩ := rfl
    simp [execOp, ho, resolve, invoke, builtin, hv, hu, hrun]
  · exact hH.chg hch (fun b' hb' => by cases hb'; exact hI.low k _ g g1 rfl) (fun _ _ h => h) (fun _ _ h => .inl h)
  · refine hI.put hch (fun _ _ h => h) (RhoLe.refl r) k _ _ ⟨_, g1, fun b' hb' => ?_⟩ g1 (fun _ _ => rfl) (fun b' hb' => .inr ⟨_, g1, hb'⟩) (fun b' hb' => ⟨_, g1, by cases hb'; rfl⟩) (fun _ _ h => .inl h)
    rw [size_freeze]
    simp only [Loc.block, Option.some.injEq] at hb'
    subst hb'
    exact (Array.getElem?_eq_some_iff.1 g3).1

end

section
variable {X : Ctx} {n : Nat} {all rest : List Oper} {fr : Fr} {ow : Ow} {tr : List (List Nat × List Nat)} {K : Fr → Ow → List (List Nat × List Nat) → Prop}
variable {t k : Nat} {ty ty' : TypeId} {ps : String} {af : Array Edge} {x : Operand} {l : List UInt8}

theorem bld_aux (o : Oper) (ho : o.op = .alloc ty) (hg : o.guard = none) (hds : o.dst = some t) (hz : B.zr ty = some (.ag [.v (.pointer none), .nilS])) (ht : look t ow = none) (hn : Nat.blt t n = true)
    (h : CT Tryd.prog X n all rest ((t, .pv t 0) :: fr) ((t, .bld ty .nilS) :: ow) (tr ++ [([t], [t])]) K) : CT Tryd.prog X n all (o :: rest) fr ow tr K := by
  have e := tb_eq
  have h1 := @bld_step Tryd.prog X n o fr ow t ty
  have h2 := @h1 B e
  have h3 := h2 ho
  have h4 := h3 hz ht (by rw [hds]; exact Nat.le_of_ble_eq_true hn)
  refine CT.cons (e := ⟨.pv t 0, [t], [(t, .bld ty .nilS)]⟩) (.plain hg h4) ?_ (fO_cons ..) h
  rw [hds]
  exact fF_cons ..

/-- A new builder. -/
theorem r_bld (hz : B.zr ty = some (.ag [.v (.pointer none), .nilS])) (ht : look t ow = none) (hn : Nat.blt t n = true)
    (h : CT Tryd.prog X n all rest ((t, .pv t 0) :: fr) ((t, .bld ty .nilS) :: ow) (tr ++ [([t], [t])]) K) : CT Tryd.prog X n all (⟨some t, .alloc ty, ty', ps, af, none⟩ :: rest) fr ow tr K := by
  generalize ho : (⟨some t, .alloc ty, ty', ps, af, none⟩ : Oper) = o
  exact bld_aux o (by rw [← ho]) (by rw [← ho]) (by rw [← ho]) hz ht hn h

theorem r_bload {d : D} {T0 : TypeId} (hx : ev fr x = .pv k 1) (hk : look k ow = some (.bld T0 d)) (hz : B.sz ty = some (1, false)) (hn : Nat.blt t n = true)
    (h : CT Tryd.prog X n all rest ((t, d) :: fr) ow (tr ++ [([k], [])]) K) : CT Tryd.prog X n all (⟨some t, .load ty x, ty', ps, af, none⟩ :: rest) fr ow tr K :=
  CT.cons (e := ⟨d, [k], []⟩) (.plain rfl (bload_step (P := Tryd.prog) (X := X) (o := ⟨some t, .load ty x, ty', ps, af, none⟩) tb_eq rfl hz hx hk (Nat.le_of_ble_eq_true hn))) (fF_cons ..) rfl h

theorem r_sdata {e : TypeId} {L : Nat} {f : Nat → List D} {ts : Array TypeId} (hx : ev fr x = .gs k 1 L f) (hk : look k ow = some (.row e 1 L)) (hn : Nat.blt t n = true) (hL : 0 < L)
    (h : CT Tryd.prog X n all rest ((t, .ap k 1 L 0 0) :: fr) ow (tr ++ [([k], [])]) K) : CT Tryd.prog X n all (⟨some t, .call { callee := .builtin .unsafeSliceData, args := #[x], argTypes := ts }, ty', ps, af, none⟩ :: rest) fr ow tr K :=
  CT.cons (e := ⟨.ap k 1 L 0 0, [k], []⟩) (.plain rfl (sdata_step (P := Tryd.prog) (X := X) (o := ⟨some t, .call { callee := .builtin .unsafeSliceData, args := #[x], argTypes := ts }, ty', ps, af, none⟩) rfl hx hk hL (Nat.le_of_ble_eq_true hn))) (fF_cons ..) rfl h

set_option maxRecDepth 100000 in
theorem r_ustr {y : Operand} {pt it e T0 : TypeId} (kb : Nat) (l : List UInt8) (hx : ev fr x = .ap k 1 l.length 0 0) (hy : ev fr y = .i .i64 l.length) (hk : look k ow = some (.row e 1 l.length)) (hb : look kb ow = some (.bld T0 (.gs k 1 l.length (bytesF l))))
    (hp : Tryd.prog.underlying pt = some (.pointer e)) (hc : Tryd.prog.cellsOf e = 1) (hne : Nat.beq kb k = false) (hn : Nat.blt t n = true) (hL : 0 < l.length)
    (h : CT Tryd.prog X n all rest ((t, .s l) :: fr) ((k, .gone) :: ow) (tr ++ [([kb, k], [k])]) K) : CT Tryd.prog X n all (⟨some t, .call { callee := .builtin .unsafeString, args := #[x, y], argTypes := #[pt, it] }, ty', ps, af, none⟩ :: rest) fr ow tr K :=
  CT.cons (e := ⟨.s l, [kb, k], [(k, .gone)]⟩) (.plain rfl (ustr_step (P := Tryd.prog) (X := X) (o := ⟨some t, .call { callee := .builtin .unsafeString, args := #[x, y], argTypes := #[pt, it] }, ty', ps, af, none⟩) hp hc rfl hx hy hk hb (fun e => by subst e; rw [Nat.beq_refl] at hne; cases hne) hL (Nat.le_of_ble_eq_true hn))) (fF_cons ..) (fO_cons ..) h

end
end Go.Proofs.YtinjdlckhmkmaaaDoor.Flow

/- LIBS: strings.ReplaceAll, strings.Join, the builder's look at itself (the kit's contracts, laid at this seat), as Flow's. -/
namespace Go.Proofs.YtinjdlckhmkmaaaDoor.Flow
open Go

theorem copyU (b : Nat) (w : World) (h0 : w.cell? ⟨b, 0, none⟩ = some (.pointer (some ⟨b, 0, none⟩))) :
    Calls Tryd.prog 65 #[.pointer (some ⟨b, 0, none⟩)] w fun e w' => e = .returned (.tuple #[]) ∧ w' = w :=
  Any.Builder_copyCheck_used (P := Tryd.prog) (ρ := Tryd.lays156_ren) { Tryd.lays156 with } Tryd.Builder_Extra_156.toX72 b w h0

theorem copyF (b : Nat) (w : World) (h0 : w.cell? ⟨b, 0, none⟩ = some (.pointer none)) (hs : w.shape? b = some (82, 2)) (hf : w.frozen? ⟨b, 0, none⟩ = false) :
    Calls Tryd.prog 65 #[.pointer (some ⟨b, 0, none⟩)] w fun e w' => e = .returned (.tuple #[]) ∧ w' = w.setCell ⟨b, 0, none⟩ (.pointer (some ⟨b, 0, none⟩)) :=
  Any.Builder_copyCheck_fresh (P := Tryd.prog) (ρ := Tryd.lays156_ren) { Tryd.lays156 with } Tryd.Builder_Extra_156.toX72 b w h0 hs hf

theorem copy_ctr (k : Nat) (d : D) (lo : Ow) : CtrO Tryd.prog 65 [.pv k 0] ((k, .bld 82 d) :: lo) (.tu []) ((k, .var [.pv k 0, d]) :: lo) :=
  copy_of copyU copyF

/-- Join's answer, in plain words. -/
def joinL (sep : List UInt8) : List (List UInt8) → List UInt8
  | [] => []
  | x :: xs => x ++ (xs.map fun y => sep ++ y).flatten

end Go.Proofs.YtinjdlckhmkmaaaDoor.Flow

/- A BUILDER: its bytes, and what is written into it (the builder is object 3). -/

namespace Go.Proofs.YtinjdlckhmkmaaaDoor.Flow
open Go

/-- A builder (3) whose bytes lie in the row 200. -/
def bl (l : List UInt8) : Ow := [(3, .bld 82 (.gs 200 1 l.length (bytesF l))), (200, .row 5 1 l.length)]

theorem catF_tx (l xs : List UInt8) (g : Nat → List D) (hg : ∀ i, i < xs.length → g i = bytesF xs i) : catF l.length (bytesF l) xs.length g = bytesF (l ++ xs) := by
  funext j
  unfold catF
  by_cases h : j < l.length
  · rw [if_pos h]
    simp [bytesF, List.getD_eq_getElem?_getD, h, List.getElem?_append_left]
  · rw [if_neg h]
    by_cases h2 : j < l.length + xs.length
    · rw [if_pos h2, hg _ (by omega)]
      simp [bytesF, List.getD_eq_getElem?_getD, List.getElem?_append_right (show l.length ≤ j by omega)]
    · rw [if_neg h2]
      simp [bytesF, List.getD_eq_getElem?_getD, List.getElem?_append_right (show l.length ≤ j by omega)]
      rw [List.getElem?_eq_none (show l.length ≤ j by omega), List.getElem?_eq_none (show xs.length ≤ j - l.length by omega)]

theorem gs_tx (k : Nat) (l xs : List UInt8) (m : Nat) (g : Nat → List D) (hm : m = xs.length) (hg : ∀ i, i < xs.length → g i = bytesF xs i) :
    D.gs k 1 (l.length + m) (catF l.length (bytesF l) m g) = D.gs k 1 (l ++ xs).length (bytesF (l ++ xs)) := by
  subst hm
  rw [catF_tx l xs g hg]
  simp

set_option maxRecDepth 100000 in
theorem write_ctr (l s : List UInt8) (hl : l.length + s.length ≤ 1099511627776) :
    CtrO Tryd.prog 44 [.pv 3 0, .s s] (bl l) (.tu [.i .i64 s.length, .v .nilIface]) (bl (l ++ s)) := by
  have hc := copy_ctr 3 (.gs 200 1 l.length (bytesF l)) [(200, .row 5 1 l.length)]
  refine r_methM Tryd.func44 rfl Tryd.ntmps44 Tryd.results44 rfl rfl rfl rfl rfl fun X hL hX => ?_
  repeat' (first
    | with_reducible refine t_seq ?_ | with_reducible refine t_region ?_ | with_reducible refine c_nil ?_ | with_reducible refine n_then ?_
    | with_reducible refine t_ret ?_ | with_reducible refine t_skip ?_ | with_reducible refine t_exit ?_ | with_reducible refine t_block ?_
    | with_reducible refine n_block ?_ | with_reducible refine e_then ?_ | with_reducible refine x_then ?_ | with_reducible refine x_block ?_ | with_reducible refine t_draw ?_
    | refine r_val rfl rfl True.intro ?_ | refine r_gskip rfl rfl rfl ?_ | refine r_gskip2 rfl rfl rfl ?_ | refine r_gval rfl rfl rfl rfl True.intro ?_
    | refine t_true rfl ?_ | refine t_false rfl ?_
    | ((first | refine t_cond_d rfl (fun _ => ?_) (fun _ => ?_) | refine t_cond_i rfl (fun _ => ?_) (fun _ => ?_) | refine t_cond_j rfl (fun _ => ?_) (fun _ => ?_) | refine t_cond_s rfl (fun _ => ?_) (fun _ => ?_) | refine t_cond_n rfl (fun _ => ?_) (fun _ => ?_) | refine t_cond rfl (fun _ => ?_) (fun _ => ?_) | refine c_split_d rfl rfl (fun _ => ?_) (fun _ => ?_) | refine c_split_i rfl rfl (fun _ => ?_) (fun _ => ?_) | refine c_split_j rfl rfl (fun _ => ?_) (fun _ => ?_) | refine c_split_s rfl rfl (fun _ => ?_) (fun _ => ?_) | refine c_split_n rfl rfl (fun _ => ?_) (fun _ => ?_)) <;> try (first | contradiction | (exfalso; omega)))
    | refine r_val rfl rfl (by (first | omega | exact Nat.le_of_ble_eq_true rfl | ((repeat' refine And.intro ?_ ?_) <;> first | omega | rfl | trivial | exact Nat.le_refl _ | exact Nat.le_of_ble_eq_true rfl) | (simp only [Int.toNat_natCast] at *; (repeat' refine And.intro ?_ ?_) <;> first | omega | rfl | trivial | exact Nat.le_refl _ | exact Nat.le_of_ble_eq_true rfl))) ?_ | refine r_gval rfl rfl rfl rfl (by (first | omega | exact Nat.le_of_ble_eq_true rfl | ((repeat' refine And.intro ?_ ?_) <;> first | omega | rfl | trivial | exact Nat.le_refl _ | exact Nat.le_of_ble_eq_true rfl) | (simp only [Int.toNat_natCast] at *; (repeat' refine And.intro ?_ ?_) <;> first | omega | rfl | trivial | exact Nat.le_refl _ | exact Nat.le_of_ble_eq_true rfl))) ?_
    | refine r_obj rfl rfl (by (first | omega | exact Nat.le_of_ble_eq_true rfl | ((repeat' refine And.intro ?_ ?_) <;> first | omega | rfl | trivial | exact Nat.le_refl _ | exact Nat.le_of_ble_eq_true rfl) | (simp only [Int.toNat_natCast] at *; (repeat' refine And.intro ?_ ?_) <;> first | omega | rfl | trivial | exact Nat.le_refl _ | exact Nat.le_of_ble_eq_true rfl))) ?_ | refine r_sto rfl (by (first | omega | exact Nat.le_of_ble_eq_true rfl | ((repeat' refine And.intro ?_ ?_) <;> first | omega | rfl | trivial | exact Nat.le_refl _ | exact Nat.le_of_ble_eq_true rfl) | (simp only [Int.toNat_natCast] at *; (repeat' refine And.intro ?_ ?_) <;> first | omega | rfl | trivial | exact Nat.le_refl _ | exact Nat.le_of_ble_eq_true rfl))) ?_ | refine r_gobj rfl rfl rfl rfl (by (first | omega | exact Nat.le_of_ble_eq_true rfl | ((repeat' refine And.intro ?_ ?_) <;> first | omega | rfl | trivial | exact Nat.le_refl _ | exact Nat.le_of_ble_eq_true rfl) | (simp only [Int.toNat_natCast] at *; (repeat' refine And.intro ?_ ?_) <;> first | omega | rfl | trivial | exact Nat.le_refl _ | exact Nat.le_of_ble_eq_true rfl))) ?_
    | refine e_hit rfl ?_ | refine e_miss rfl ?_
    | refine ⟨by kernel_rfl, ?_⟩ | refine x_endM rfl rfl ?_ | refine n_endM rfl rfl ?_ | refine r_lend2 (f := 65) 3 200 rfl rfl Tryd.call65 rfl rfl rfl rfl rfl rfl rfl rfl rfl hc ?_ | ((with_reducible refine c_grd ?_); (fail_if_success (refine c_lit true rfl rfl rfl ?_)); (fail_if_success (refine c_lit false rfl rfl rfl ?_)); refine c_split rfl rfl (fun _ => ?_) (fun _ => ?_)))
  exact ⟨⟨.inr (congrArg (fun d => some (Own.var [.pv 3 0, d])) (gs_tx 200 l s _ _ rfl (fun _ _ => rfl))), by rw [List.length_append]; rfl, trivial⟩⟩

set_option maxRecDepth 100000 in
theorem string_ctr (l : List UInt8) (h0 : 0 < l.length) (hl : l.length ≤ 1099511627776) :
    CtrO Tryd.prog 45 [.pv 3 0] (bl l) (.s l) [(3, .gone), (200, .gone)] := by
  have hp : Tryd.prog.underlying 106 = some (.pointer 5) := Tryd.underlying106
  have hz : Tryd.prog.cellsOf 5 = 1 := by kernel_rfl
  refine r_methM Tryd.func45 rfl Tryd.ntmps45 Tryd.results45 rfl rfl rfl rfl rfl fun X hL hX => ?_
  repeat' (first
    | with_reducible refine t_seq ?_ | with_reducible refine t_region ?_ | with_reducible refine c_nil ?_ | with_reducible refine n_then ?_
    | with_reducible refine t_ret ?_ | with_reducible refine t_skip ?_ | with_reducible refine t_exit ?_ | with_reducible refine t_block ?_
    | with_reducible refine n_block ?_ | with_reducible refine e_then ?_ | with_reducible refine x_then ?_ | with_reducible refine x_block ?_ | with_reducible refine t_draw ?_
    | refine r_val rfl rfl True.intro ?_ | refine r_gskip rfl rfl rfl ?_ | refine r_gskip2 rfl rfl rfl ?_ | refine r_gval rfl rfl rfl rfl True.intro ?_
    | refine t_true rfl ?_ | refine t_false rfl ?_
    | ((first | refine t_cond_d rfl (fun _ => ?_) (fun _ => ?_) | refine t_cond_i rfl (fun _ => ?_) (fun _ => ?_) | refine t_cond_j rfl (fun _ => ?_) (fun _ => ?_) | refine t_cond_s rfl (fun _ => ?_) (fun _ => ?_) | refine t_cond_n rfl (fun _ => ?_) (fun _ => ?_) | refine t_cond rfl (fun _ => ?_) (fun _ => ?_) | refine c_split_d rfl rfl (fun _ => ?_) (fun _ => ?_) | refine c_split_i rfl rfl (fun _ => ?_) (fun _ => ?_) | refine c_split_j rfl rfl (fun _ => ?_) (fun _ => ?_) | refine c_split_s rfl rfl (fun _ => ?_) (fun _ => ?_) | refine c_split_n rfl rfl (fun _ => ?_) (fun _ => ?_)) <;> try (first | contradiction | (exfalso; omega)))
    | refine r_val rfl rfl (by (first | omega | exact Nat.le_of_ble_eq_true rfl | ((repeat' refine And.intro ?_ ?_) <;> first | omega | rfl | trivial | exact Nat.le_refl _ | exact Nat.le_of_ble_eq_true rfl) | (simp only [Int.toNat_natCast] at *; (repeat' refine And.intro ?_ ?_) <;> first | omega | rfl | trivial | exact Nat.le_refl _ | exact Nat.le_of_ble_eq_true rfl))) ?_ | refine r_gval rfl rfl rfl rfl (by (first | omega | exact Nat.le_of_ble_eq_true rfl | ((repeat' refine And.intro ?_ ?_) <;> first | omega | rfl | trivial | exact Nat.le_refl _ | exact Nat.le_of_ble_eq_true rfl) | (simp only [Int.toNat_natCast] at *; (repeat' refine And.intro ?_ ?_) <;> first | omega | rfl | trivial | exact Nat.le_refl _ | exact Nat.le_of_ble_eq_true rfl))) ?_
    | refine r_obj rfl rfl (by (first | omega | exact Nat.le_of_ble_eq_true rfl | ((repeat' refine And.intro ?_ ?_) <;> first | omega | rfl | trivial | exact Nat.le_refl _ | exact Nat.le_of_ble_eq_true rfl) | (simp only [Int.toNat_natCast] at *; (repeat' refine And.intro ?_ ?_) <;> first | omega | rfl | trivial | exact Nat.le_refl _ | exact Nat.le_of_ble_eq_true rfl))) ?_ | refine r_sto rfl (by (first | omega | exact Nat.le_of_ble_eq_true rfl | ((repeat' refine And.intro ?_ ?_) <;> first | omega | rfl | trivial | exact Nat.le_refl _ | exact Nat.le_of_ble_eq_true rfl) | (simp only [Int.toNat_natCast] at *; (repeat' refine And.intro ?_ ?_) <;> first | omega | rfl | trivial | exact Nat.le_refl _ | exact Nat.le_of_ble_eq_true rfl))) ?_ | refine r_gobj rfl rfl rfl rfl (by (first | omega | exact Nat.le_of_ble_eq_true rfl | ((repeat' refine And.intro ?_ ?_) <;> first | omega | rfl | trivial | exact Nat.le_refl _ | exact Nat.le_of_ble_eq_true rfl) | (simp only [Int.toNat_natCast] at *; (repeat' refine And.intro ?_ ?_) <;> first | omega | rfl | trivial | exact Nat.le_refl _ | exact Nat.le_of_ble_eq_true rfl))) ?_
    | refine e_hit rfl ?_ | refine e_miss rfl ?_
    | refine ⟨by kernel_rfl, ?_⟩ | refine x_endM rfl rfl ?_ | refine n_endM rfl rfl ?_ | refine r_bload rfl rfl rfl rfl ?_ | refine r_sdata rfl rfl rfl h0 ?_ | refine r_ustr 3 l rfl rfl rfl rfl hp hz rfl rfl h0 ?_ | ((with_reducible refine c_grd ?_); (fail_if_success (refine c_lit true rfl rfl rfl ?_)); (fail_if_success (refine c_lit false rfl rfl rfl ?_)); refine c_split rfl rfl (fun _ => ?_) (fun _ => ?_)))
  exact ⟨⟨⟨_, rfl⟩, ⟨_, rfl⟩, trivial⟩⟩

end Go.Proofs.YtinjdlckhmkmaaaDoor.Flow
