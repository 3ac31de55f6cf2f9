/- META: data, scans with a bound, the documents' Much. -/
import Derived.Test.YtejpliaomhpakaaFlowO
namespace Go.Proofs.Ytejpliaomhpakaa.Flow
open Go

/-- A scan that may stop early. -/
def scanO (step : Nat → Int → Option Int) (len B : Nat) (i : Nat) (n : Int) : Option Int :=
  if h : i < len ∧ i < B then match step i n with
    | none => none
    | some m => scanO step len B (i + 1) m
  else some n
termination_by B - i
decreasing_by omega

theorem scanO_more {step : Nat → Int → Option Int} {len B i : Nat} {n m : Int} (h : i < len) (h2 : i < B) (h3 : step i n = some m) : scanO step len B i n = scanO step len B (i + 1) m := by
  conv => lhs; unfold scanO
  rw [dif_pos ⟨h, h2⟩, h3]
theorem scanO_stop {step : Nat → Int → Option Int} {len B i : Nat} {n : Int} (h : i < len) (h2 : i < B) (h3 : step i n = none) : scanO step len B i n = none := by
  conv => lhs; unfold scanO
  rw [dif_pos ⟨h, h2⟩, h3]
theorem scanO_end {step : Nat → Int → Option Int} {len B i : Nat} {n : Int} (h : i < len → ¬ i < B) : scanO step len B i n = some n := by
  unfold scanO
  rw [dif_neg (fun x => h x.1 x.2)]

/-- The place of a text in a list; -1: it is not there. -/
def idxI (n : List UInt8) : List (List UInt8) → Int
  | [] => -1
  | a :: r => if a = n then 0 else if idxI n r < 0 then -1 else idxI n r + 1

theorem idxI_hit {n : List UInt8} : ∀ {l : List (List UInt8)} {i : Nat}, (∀ j, j < i → ¬ l.getD j [] = n) → i < l.length → l.getD i [] = n → idxI n l = i
  | [], _, _, h, _ => by simp at h
  | a :: r, 0, _, _, h => by simp only [List.getD_cons_zero] at h; simp [idxI, h]
  | a :: r, i + 1, h1, h2, h3 => by
    have h0 := h1 0 (by omega)
    simp only [List.getD_cons_zero] at h0
    have ih := idxI_hit (n := n) (l := r) (i := i) (fun j hj => by have := h1 (j + 1) (by omega); simpa using this) (by simpa using h2) (by simpa using h3)
    simp only [idxI, if_neg h0, ih]
    rw [if_neg (by omega)]
    omega

theorem idxI_miss {n : List UInt8} : ∀ {l : List (List UInt8)}, (∀ j, j < l.length → ¬ l.getD j [] = n) → idxI n l = -1
  | [], _ => rfl
  | a :: r, h1 => by
    have h0 := h1 0 (by simp)
    simp only [List.getD_cons_zero] at h0
    have ih := idxI_miss (n := n) (l := r) (fun j hj => by have := h1 (j + 1) (by simpa using hj); simpa using this)
    simp only [idxI, if_neg h0, ih]
    rw [if_pos (by omega)]

theorem idxI_lt (n : List UInt8) : ∀ l : List (List UInt8), -1 ≤ idxI n l ∧ idxI n l < l.length
  | [] => by simp [idxI]
  | a :: r => by
    have ih := idxI_lt n r
    simp only [idxI, List.length_cons]
    split
    · omega
    · split <;> omega

theorem map_at {α β : Type} (f : α → β) (l : List α) (a : α) (i : Nat) : (l.map f).getD i (f a) = f (l.getD i a) := by
  simp only [List.getD_eq_getElem?_getD, List.getElem?_map]
  cases l[i]? <;> rfl

abbrev Txt := List UInt8
abbrev Fld := Txt × Txt
abbrev Vec := Txt × List Fld

def fldF (l : List Fld) : Nat → List D := fun i => [.s (l.getD i ([], [])).1, .s (l.getD i ([], [])).2]
def vecF (a : List Vec) : Nat → List D := fun i => [.s (a.getD i ([], [])).1, .sl 2 (a.getD i ([], [])).2.length (fldF (a.getD i ([], [])).2)]

def smallF (l : List Fld) : Prop := l.length ≤ 1048576 ∧ ∀ i, (l.getD i ([], [])).1.length ≤ 1048576 ∧ (l.getD i ([], [])).2.length ≤ 1048576
def smallV (a : List Vec) : Prop := a.length ≤ 1048576 ∧ ∀ i, (a.getD i ([], [])).1.length ≤ 1048576 ∧ smallF (a.getD i ([], [])).2

def fldW (l : List Fld) (k : Nat) (n : Int) : Option Int := some (n + 1 + ((l.getD k ([], [])).1.length : Int) + ((l.getD k ([], [])).2.length : Int))
def muchV1 (a : List Vec) (i : Nat) (n : Int) : Option Int :=
  match scanO (fldW (a.getD i ([], [])).2) (a.getD i ([], [])).2.length 30 0 n with
  | none => none
  | some m => if m > 1000 ∨ (a.getD i ([], [])).2.length > 25 then none else some m
def muchV (a : List Vec) : Bool :=
  match scanO (muchV1 a) a.length 30 0 0 with
  | none => true
  | some _ => decide (a.length > 25)

set_option maxHeartbeats 4000000 in
theorem rmuchV_ctr (a : List Vec) (ha : smallV a) : Ctr Try.prog 11 [.sl 2 a.length (vecF a)] (.b (muchV a)) := by
  refine r_fun Try.func11 rfl Try.ntmps11 Try.results11 rfl rfl fun X hL hX => ?_
  obtain ⟨ha1, ha2⟩ := ha
  repeat' (first
    | with_reducible refine t_seq ?_ | with_reducible refine t_region ?_ | with_reducible refine c_nil ?_ | with_reducible refine n_then ?_
    | with_reducible refine t_ret ?_ | with_reducible refine t_skip ?_ | with_reducible refine t_exit ?_ | with_reducible refine t_block ?_
    | with_reducible refine n_block ?_ | with_reducible refine e_then ?_ | with_reducible refine x_then ?_ | with_reducible refine x_block ?_ | with_reducible refine t_draw ?_
    | refine r_val rfl rfl True.intro ?_ | refine r_gskip rfl rfl rfl ?_ | refine r_gskip2 rfl rfl rfl ?_ | refine r_gval rfl rfl rfl rfl True.intro ?_
    | refine t_true rfl ?_ | refine t_false rfl ?_
    | ((first | refine t_cond_d rfl (fun _ => ?_) (fun _ => ?_) | refine t_cond_i rfl (fun _ => ?_) (fun _ => ?_) | refine t_cond_j rfl (fun _ => ?_) (fun _ => ?_) | refine t_cond_s rfl (fun _ => ?_) (fun _ => ?_) | refine t_cond_n rfl (fun _ => ?_) (fun _ => ?_) | refine t_cond rfl (fun _ => ?_) (fun _ => ?_) | refine c_split_d rfl rfl (fun _ => ?_) (fun _ => ?_) | refine c_split_i rfl rfl (fun _ => ?_) (fun _ => ?_) | refine c_split_j rfl rfl (fun _ => ?_) (fun _ => ?_) | refine c_split_s rfl rfl (fun _ => ?_) (fun _ => ?_) | refine c_split_n rfl rfl (fun _ => ?_) (fun _ => ?_)) <;> try (first | contradiction | (exfalso; omega)))
    | refine r_val rfl rfl (by (first | omega | exact Nat.le_of_ble_eq_true rfl | (simp_all; done) | (simp_all; omega) | ((repeat' refine And.intro ?_ ?_) <;> first | omega | rfl | exact Nat.le_refl _ | exact Nat.le_of_ble_eq_true rfl | exact bytesF_one _ | (simp_all; done) | (simp_all; omega)))) ?_ | refine r_gval rfl rfl rfl rfl (by (first | omega | exact Nat.le_of_ble_eq_true rfl | (simp_all; done) | (simp_all; omega) | ((repeat' refine And.intro ?_ ?_) <;> first | omega | rfl | exact Nat.le_refl _ | exact Nat.le_of_ble_eq_true rfl | exact bytesF_one _ | (simp_all; done) | (simp_all; omega)))) ?_
    | refine r_obj rfl rfl (by (first | omega | exact Nat.le_of_ble_eq_true rfl | (simp_all; done) | (simp_all; omega) | ((repeat' refine And.intro ?_ ?_) <;> first | omega | rfl | exact Nat.le_refl _ | exact Nat.le_of_ble_eq_true rfl | exact bytesF_one _ | (simp_all; done) | (simp_all; omega)))) ?_ | refine r_sto rfl (by (first | omega | exact Nat.le_of_ble_eq_true rfl | (simp_all; done) | (simp_all; omega) | ((repeat' refine And.intro ?_ ?_) <;> first | omega | rfl | exact Nat.le_refl _ | exact Nat.le_of_ble_eq_true rfl | exact bytesF_one _ | (simp_all; done) | (simp_all; omega)))) ?_ | refine r_gobj rfl rfl rfl rfl (by (first | omega | exact Nat.le_of_ble_eq_true rfl | (simp_all; done) | (simp_all; omega) | ((repeat' refine And.intro ?_ ?_) <;> first | omega | rfl | exact Nat.le_refl _ | exact Nat.le_of_ble_eq_true rfl | exact bytesF_one _ | (simp_all; done) | (simp_all; omega)))) ?_
    | refine e_hit rfl ?_ | refine e_miss rfl ?_
    | refine ⟨by kernel_rfl, ?_⟩ | refine x_end rfl ?_ | refine n_end rfl ?_ | ((with_reducible refine c_grd ?_); (fail_if_success (refine c_lit true rfl rfl rfl ?_)); (fail_if_success (refine c_lit false rfl rfl rfl ?_)); refine c_split rfl rfl (fun _ => ?_) (fun _ => ?_)))
  refine T.loop hL (fun x : Nat × Int => [(0, .sl 2 a.length (vecF a)), (3, .i .i64 x.2), (4, .i .i64 x.1)]) (fun _ => [])
    (fun x => x.1 ≤ 30 ∧ 0 ≤ x.2 ∧ x.2 ≤ (30 * x.1 : Nat) * 2097153 ∧ scanO (muchV1 a) a.length 30 x.1 x.2 = scanO (muchV1 a) a.length 30 0 0) (fun x => 30 - x.1) (0, 0) (by simp)
    ⟨⟨rfl, rfl, rfl, trivial⟩, trivial, rfl, by rw [hX]; simp⟩ ?_
  rintro ⟨i, n⟩ ⟨h1, h2, h3, h4⟩
  dsimp only at h1 h2 h3 h4 ⊢
  have hi1 := (ha2 i).2.1
  have hi2 := (ha2 i).2.2
  have stop : i < a.length → i < 30 → muchV1 a i n = none → D.b true = D.b (muchV a) := fun x y z => by
    have e := scanO_stop (step := muchV1 a) (len := a.length) (B := 30) (i := i) (n := n) x y z
    unfold muchV; rw [← h4, e]
  have fin : (i < a.length → ¬ i < 30) → D.b (decide (25 < (a.length : Int))) = D.b (muchV a) := fun x => by
    unfold muchV; rw [← h4, scanO_end x]
    show D.b _ = D.b _; congr 1; rw [Bool.eq_iff_iff]; simp only [decide_eq_true_eq]; omega
  have more : ∀ m, i < a.length → i < 30 → muchV1 a i n = some m → scanO (muchV1 a) a.length 30 (i + 1) m = scanO (muchV1 a) a.length 30 0 0 := fun m x y z => by rw [← h4]; exact (scanO_more x y z).symm
  clear ha2
  repeat' (first
    | with_reducible refine t_seq ?_ | with_reducible refine t_region ?_ | with_reducible refine c_nil ?_ | with_reducible refine n_then ?_
    | with_reducible refine t_ret ?_ | with_reducible refine t_skip ?_ | with_reducible refine t_exit ?_ | with_reducible refine t_block ?_
    | with_reducible refine n_block ?_ | with_reducible refine e_then ?_ | with_reducible refine x_then ?_ | with_reducible refine x_block ?_ | with_reducible refine t_draw ?_
    | refine r_val rfl rfl True.intro ?_ | refine r_gskip rfl rfl rfl ?_ | refine r_gskip2 rfl rfl rfl ?_ | refine r_gval rfl rfl rfl rfl True.intro ?_
    | refine t_true rfl ?_ | refine t_false rfl ?_
    | ((first | refine t_cond_d rfl (fun _ => ?_) (fun _ => ?_) | refine t_cond_i rfl (fun _ => ?_) (fun _ => ?_) | refine t_cond_j rfl (fun _ => ?_) (fun _ => ?_) | refine t_cond_s rfl (fun _ => ?_) (fun _ => ?_) | refine t_cond_n rfl (fun _ => ?_) (fun _ => ?_) | refine t_cond rfl (fun _ => ?_) (fun _ => ?_) | refine c_split_d rfl rfl (fun _ => ?_) (fun _ => ?_) | refine c_split_i rfl rfl (fun _ => ?_) (fun _ => ?_) | refine c_split_j rfl rfl (fun _ => ?_) (fun _ => ?_) | refine c_split_s rfl rfl (fun _ => ?_) (fun _ => ?_) | refine c_split_n rfl rfl (fun _ => ?_) (fun _ => ?_)) <;> try (first | contradiction | (exfalso; omega)))
    | refine r_val rfl rfl (by (first | omega | exact Nat.le_of_ble_eq_true rfl | (simp_all; done) | (simp_all; omega) | ((repeat' refine And.intro ?_ ?_) <;> first | omega | rfl | exact Nat.le_refl _ | exact Nat.le_of_ble_eq_true rfl | exact bytesF_one _ | (simp_all; done) | (simp_all; omega)))) ?_ | refine r_gval rfl rfl rfl rfl (by (first | omega | exact Nat.le_of_ble_eq_true rfl | (simp_all; done) | (simp_all; omega) | ((repeat' refine And.intro ?_ ?_) <;> first | omega | rfl | exact Nat.le_refl _ | exact Nat.le_of_ble_eq_true rfl | exact bytesF_one _ | (simp_all; done) | (simp_all; omega)))) ?_
    | refine r_obj rfl rfl (by (first | omega | exact Nat.le_of_ble_eq_true rfl | (simp_all; done) | (simp_all; omega) | ((repeat' refine And.intro ?_ ?_) <;> first | omega | rfl | exact Nat.le_refl _ | exact Nat.le_of_ble_eq_true rfl | exact bytesF_one _ | (simp_all; done) | (simp_all; omega)))) ?_ | refine r_sto rfl (by (first | omega | exact Nat.le_of_ble_eq_true rfl | (simp_all; done) | (simp_all; omega) | ((repeat' refine And.intro ?_ ?_) <;> first | omega | rfl | exact Nat.le_refl _ | exact Nat.le_of_ble_eq_true rfl | exact bytesF_one _ | (simp_all; done) | (simp_all; omega)))) ?_ | refine r_gobj rfl rfl rfl rfl (by (first | omega | exact Nat.le_of_ble_eq_true rfl | (simp_all; done) | (simp_all; omega) | ((repeat' refine And.intro ?_ ?_) <;> first | omega | rfl | exact Nat.le_refl _ | exact Nat.le_of_ble_eq_true rfl | exact bytesF_one _ | (simp_all; done) | (simp_all; omega)))) ?_
    | refine e_hit rfl ?_ | refine e_miss rfl ?_
    | refine ⟨by kernel_rfl, ?_⟩ | refine x_end rfl ?_ | refine n_end rfl ?_ | ((with_reducible refine c_grd ?_); (fail_if_success (refine c_lit true rfl rfl rfl ?_)); (fail_if_success (refine c_lit false rfl rfl rfl ?_)); refine c_split rfl rfl (fun _ => ?_) (fun _ => ?_)))
  · refine T.loop hL (fun x : Nat × Int => [(0, .sl 2 a.length (vecF a)), (3, .i .i64 x.2), (4, .i .i64 i), (5, .i .i64 x.1)]) (fun _ => [])
      (fun x => x.1 ≤ 30 ∧ 0 ≤ x.2 ∧ x.2 ≤ (30 * i + x.1 : Nat) * 2097153 ∧ scanO (fldW (a.getD i ([], [])).2) (a.getD i ([], [])).2.length 30 x.1 x.2 = scanO (fldW (a.getD i ([], [])).2) (a.getD i ([], [])).2.length 30 0 n) (fun x => 30 - x.1) (0, n) (by simp; omega)
      ⟨⟨rfl, rfl, rfl, rfl, trivial⟩, trivial, rfl, by rw [hX]; simp⟩ ?_
    rintro ⟨k, m⟩ ⟨g1, g2, g3, g4⟩
    dsimp only at g1 g2 g3 g4 ⊢
    obtain ⟨hk1, hk2⟩ := hi2 k
    clear hi2
    repeat' (first
      | with_reducible refine t_seq ?_ | with_reducible refine t_region ?_ | with_reducible refine c_nil ?_ | with_reducible refine n_then ?_
      | with_reducible refine t_ret ?_ | with_reducible refine t_skip ?_ | with_reducible refine t_exit ?_ | with_reducible refine t_block ?_
      | with_reducible refine n_block ?_ | with_reducible refine e_then ?_ | with_reducible refine x_then ?_ | with_reducible refine x_block ?_ | with_reducible refine t_draw ?_
      | refine r_val rfl rfl True.intro ?_ | refine r_gskip rfl rfl rfl ?_ | refine r_gskip2 rfl rfl rfl ?_ | refine r_gval rfl rfl rfl rfl True.intro ?_
      | refine t_true rfl ?_ | refine t_false rfl ?_
      | ((first | refine t_cond_d rfl (fun _ => ?_) (fun _ => ?_) | refine t_cond_i rfl (fun _ => ?_) (fun _ => ?_) | refine t_cond_j rfl (fun _ => ?_) (fun _ => ?_) | refine t_cond_s rfl (fun _ => ?_) (fun _ => ?_) | refine t_cond_n rfl (fun _ => ?_) (fun _ => ?_) | refine t_cond rfl (fun _ => ?_) (fun _ => ?_) | refine c_split_d rfl rfl (fun _ => ?_) (fun _ => ?_) | refine c_split_i rfl rfl (fun _ => ?_) (fun _ => ?_) | refine c_split_j rfl rfl (fun _ => ?_) (fun _ => ?_) | refine c_split_s rfl rfl (fun _ => ?_) (fun _ => ?_) | refine c_split_n rfl rfl (fun _ => ?_) (fun _ => ?_)) <;> try (first | contradiction | (exfalso; omega)))
      | refine r_val rfl rfl (by (first | omega | exact Nat.le_of_ble_eq_true rfl | (simp only [Int.toNat_natCast] at *; (repeat' refine And.intro ?_ ?_) <;> first | omega | rfl))) ?_ | refine r_gval rfl rfl rfl rfl (by (first | omega | exact Nat.le_of_ble_eq_true rfl | (simp only [Int.toNat_natCast] at *; (repeat' refine And.intro ?_ ?_) <;> first | omega | rfl))) ?_
      | refine r_obj rfl rfl (by (first | omega | exact Nat.le_of_ble_eq_true rfl | (simp only [Int.toNat_natCast] at *; (repeat' refine And.intro ?_ ?_) <;> first | omega | rfl))) ?_ | refine r_sto rfl (by (first | omega | exact Nat.le_of_ble_eq_true rfl | (simp only [Int.toNat_natCast] at *; (repeat' refine And.intro ?_ ?_) <;> first | omega | rfl))) ?_ | refine r_gobj rfl rfl rfl rfl (by (first | omega | exact Nat.le_of_ble_eq_true rfl | (simp only [Int.toNat_natCast] at *; (repeat' refine And.intro ?_ ?_) <;> first | omega | rfl))) ?_
      | refine e_hit rfl ?_ | refine e_miss rfl ?_
      | refine ⟨by kernel_rfl, ?_⟩ | refine x_end rfl ?_ | refine n_end rfl ?_ | ((with_reducible refine c_grd ?_); (fail_if_success (refine c_lit true rfl rfl rfl ?_)); (fail_if_success (refine c_lit false rfl rfl rfl ?_)); refine c_split rfl rfl (fun _ => ?_) (fun _ => ?_)))
    all_goals simp only [Int.toNat_natCast] at *
    · exact ⟨(k + 1, m + 1 + (((a.getD i ([], [])).2.getD k ([], [])).1.length : Int) + (((a.getD i ([], [])).2.getD k ([], [])).2.length : Int)), ⟨by dsimp only; omega, by dsimp only; omega, by dsimp only; omega, by rw [← g4]; exact (scanO_more (by omega) (by omega) rfl).symm⟩, by dsimp only; omega, ⟨rfl, rfl, rfl, rfl, trivial⟩, trivial, rfl, by rw [hX]; simp⟩
    all_goals
      have e : scanO (fldW (a.getD i ([], [])).2) (a.getD i ([], [])).2.length 30 0 n = some m := by rw [← g4]; exact scanO_end (fun h => by omega)
      first
        | exact stop (by omega) (by omega) (by unfold muchV1; rw [e]; exact if_pos (by omega))
        | exact ⟨(i + 1, m), ⟨by dsimp only; omega, by dsimp only; omega, by dsimp only; omega, more m (by omega) (by omega) (by unfold muchV1; rw [e]; exact if_neg (by omega))⟩, by dsimp only; omega, ⟨rfl, rfl, rfl, trivial⟩, trivial, rfl, by rw [hX]; simp⟩
  all_goals exact fin (fun h => by omega)

end Go.Proofs.Ytejpliaomhpakaa.Flow
