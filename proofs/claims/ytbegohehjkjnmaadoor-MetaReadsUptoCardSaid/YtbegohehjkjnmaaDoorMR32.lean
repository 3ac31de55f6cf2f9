/- The texts RM3, RM8, RM9, RM10, RM11, RM4, RM5, RM6, RN8, RFlowQ, RFlowR, RAO, one behind the other. -/
import Derived.Test.YtbegohehjkjnmaaDoorMR8
import Derived.Test.YtbegohehjkjnmaaDoorMR23
import Derived.Test.YtbegohehjkjnmaaDoorMR31
import Derived.Test.YtbegohehjkjnmaaDoorRows
import Derived.ProofKit
import Derived.OpenShut
import Derived.JoinedCond
namespace Go.Proofs.YtbegohehjkjnmaaDoor.Flow
open Go

set_option maxHeartbeats 4000000 in
theorem clone_ctr (l : List Fld) (hl : l.length ≤ 1048576) : CtrO Tryd.prog 54 [.sl 2 l.length (fldF l)] [] (.ah 5 2 l.length) [(5, .arr 71 2 l.length (fldF l))] := by
  refine r_new 5 Tryd.func54 rfl Tryd.ntmps54 Tryd.results54 rfl fun X hL hX => ?_
  rcases Nat.eq_zero_or_pos l.length with h0 | h0
  · rw [h0]
    refine T.slcase 0 2 (fldF l) rfl ?_ ?_
    · skip
      repeat' (first |with_reducible (first |refine t_seq ?_|refine t_region ?_|refine c_nil ?_|refine n_then ?_|refine t_ret ?_|refine t_skip ?_|refine t_exit ?_|refine t_block ?_|refine n_block ?_|refine e_then ?_|refine x_then ?_|refine x_block ?_|refine t_draw ?_)|refine r_val rfl rfl True.intro ?_|refine r_gskip rfl rfl rfl ?_|refine r_gskip2 rfl rfl rfl ?_|refine r_gval rfl rfl rfl rfl True.intro ?_|refine t_true rfl ?_|refine t_false rfl ?_|((first |refine t_cond_d rfl ?_ ?_|refine t_cond_i rfl ?_ ?_|refine t_cond_j rfl ?_ ?_|refine t_cond_s rfl ?_ ?_|refine t_cond_n rfl ?_ ?_|refine t_cond rfl ?_ ?_|refine c_split_d rfl rfl ?_ ?_|refine c_split_i rfl rfl ?_ ?_|refine c_split_j rfl rfl ?_ ?_|refine c_split_s rfl rfl ?_ ?_|refine c_split_n rfl rfl ?_ ?_)<;>intro<;>try (first |contradiction|(exfalso;omega)))|((first |refine r_val rfl rfl ?_ ?_|refine r_gval rfl rfl rfl rfl ?_ ?_|refine r_obj rfl rfl ?_ ?_|refine r_sto rfl ?_ ?_|refine r_gobj rfl rfl rfl rfl ?_ ?_);focus (first |omega|exact le_ rfl|(simp_all;done)|(simp_all;omega)|((repeat' refine And.intro ?_ ?_)<;>first |omega|rfl|exact Nat.le_refl _|exact le_ rfl|exact bytesF_one _|(simp_all;done)|(simp_all;omega))))|refine e_hit rfl ?_|refine e_miss rfl ?_|with_reducible refine ⟨by kernel_rfl, ?_⟩|refine x_endN0 2 rfl rfl rfl rfl rfl|((with_reducible refine c_grd ?_);(fail_if_success (refine c_lit true rfl rfl rfl ?_));(fail_if_success (refine c_lit false rfl rfl rfl ?_));refine c_split rfl rfl (fun _ => ?_) (fun _ => ?_)))
    · skip
      repeat' (first |refine r_arr (t := 5) rfl rfl (by (first |omega|exact le_ rfl|(simp_all;done)|(simp_all;omega)|((repeat' refine And.intro ?_ ?_)<;>first |omega|rfl|exact Nat.le_refl _|exact le_ rfl|exact bytesF_one _|(simp_all;done)|(simp_all;omega)))) ?_|with_reducible (first |refine t_seq ?_|refine t_region ?_|refine c_nil ?_|refine n_then ?_|refine t_ret ?_|refine t_skip ?_|refine t_exit ?_|refine t_block ?_|refine n_block ?_|refine e_then ?_|refine x_then ?_|refine x_block ?_|refine t_draw ?_)|refine r_val rfl rfl True.intro ?_|refine r_gskip rfl rfl rfl ?_|refine r_gskip2 rfl rfl rfl ?_|refine r_gval rfl rfl rfl rfl True.intro ?_|refine t_true rfl ?_|refine t_false rfl ?_|((first |refine t_cond_d rfl ?_ ?_|refine t_cond_i rfl ?_ ?_|refine t_cond_j rfl ?_ ?_|refine t_cond_s rfl ?_ ?_|refine t_cond_n rfl ?_ ?_|refine t_cond rfl ?_ ?_|refine c_split_d rfl rfl ?_ ?_|refine c_split_i rfl rfl ?_ ?_|refine c_split_j rfl rfl ?_ ?_|refine c_split_s rfl rfl ?_ ?_|refine c_split_n rfl rfl ?_ ?_)<;>intro<;>try (first |contradiction|(exfalso;omega)))|((first |refine r_val rfl rfl ?_ ?_|refine r_gval rfl rfl rfl rfl ?_ ?_|refine r_obj rfl rfl ?_ ?_|refine r_sto rfl ?_ ?_|refine r_gobj rfl rfl rfl rfl ?_ ?_);focus (first |omega|exact le_ rfl|(simp_all;done)|(simp_all;omega)|((repeat' refine And.intro ?_ ?_)<;>first |omega|rfl|exact Nat.le_refl _|exact le_ rfl|exact bytesF_one _|(simp_all;done)|(simp_all;omega))))|refine e_hit rfl ?_|refine e_miss rfl ?_|with_reducible refine ⟨by kernel_rfl, ?_⟩|refine x_endN rfl rfl rfl (fun i hi => by omega)|refine n_endN rfl rfl rfl (fun i hi => by omega)|((with_reducible refine c_grd ?_);(fail_if_success (refine c_lit true rfl rfl rfl ?_));(fail_if_success (refine c_lit false rfl rfl rfl ?_));refine c_split rfl rfl (fun _ => ?_) (fun _ => ?_)))
  · skip
    repeat' (first |refine r_arr (t := 5) rfl rfl (by (first |omega|exact le_ rfl|(simp_all;done)|(simp_all;omega)|((repeat' refine And.intro ?_ ?_)<;>first |omega|rfl|exact Nat.le_refl _|exact le_ rfl|exact bytesF_one _|(simp_all;done)|(simp_all;omega)))) ?_|with_reducible (first |refine t_seq ?_|refine t_region ?_|refine c_nil ?_|refine n_then ?_|refine t_ret ?_|refine t_skip ?_|refine t_exit ?_|refine t_block ?_|refine n_block ?_|refine e_then ?_|refine x_then ?_|refine x_block ?_|refine t_draw ?_)|refine r_val rfl rfl True.intro ?_|refine r_gskip rfl rfl rfl ?_|refine r_gskip2 rfl rfl rfl ?_|refine r_gval rfl rfl rfl rfl True.intro ?_|refine t_true rfl ?_|refine t_false rfl ?_|((first |refine t_cond_d rfl ?_ ?_|refine t_cond_i rfl ?_ ?_|refine t_cond_j rfl ?_ ?_|refine t_cond_s rfl ?_ ?_|refine t_cond_n rfl ?_ ?_|refine t_cond rfl ?_ ?_|refine c_split_d rfl rfl ?_ ?_|refine c_split_i rfl rfl ?_ ?_|refine c_split_j rfl rfl ?_ ?_|refine c_split_s rfl rfl ?_ ?_|refine c_split_n rfl rfl ?_ ?_)<;>intro<;>try (first |contradiction|(exfalso;omega)))|((first |refine r_val rfl rfl ?_ ?_|refine r_gval rfl rfl rfl rfl ?_ ?_|refine r_obj rfl rfl ?_ ?_|refine r_sto rfl ?_ ?_|refine r_gobj rfl rfl rfl rfl ?_ ?_);focus (first |omega|exact le_ rfl|(simp_all;done)|(simp_all;omega)|((repeat' refine And.intro ?_ ?_)<;>first |omega|rfl|exact Nat.le_refl _|exact le_ rfl|exact bytesF_one _|(simp_all;done)|(simp_all;omega))))|refine e_hit rfl ?_|refine e_miss rfl ?_|with_reducible refine ⟨by kernel_rfl, ?_⟩|refine x_endN rfl rfl ?_ ?_|((with_reducible refine c_grd ?_);(fail_if_success (refine c_lit true rfl rfl rfl ?_));(fail_if_success (refine c_lit false rfl rfl rfl ?_));refine c_split rfl rfl (fun _ => ?_) (fun _ => ?_)))
    · exact Nat.zero_add _
    · intro i hi
      unfold catF
      rw [if_neg (by omega), if_pos (by omega), Nat.sub_zero]

def fieldV (l : List Fld) (name kind : Txt) : List Fld :=
  if idxI name (l.map (·.1)) < 0 then l ++ [(name, kind)]
  else if (l.getD (idxI name (l.map (·.1))).toNat ([], [])).2 = kind then l
  else l.set (idxI name (l.map (·.1))).toNat ((l.getD (idxI name (l.map (·.1))).toNat ([], [])).1, [83, 116, 114, 105, 110, 103])

theorem fldF_snoc (l : List Fld) (x : Fld) (g : Nat → List D) (hg : g 0 = [.s x.1, .s x.2]) : ∀ i, i < l.length + 1 → catF l.length (fldF l) 1 g i = fldF (l ++ [x]) i := by
  intro i hi
  unfold catF fldF
  by_cases h : i < l.length
  · rw [if_pos h]
    simp [List.getD_eq_getElem?_getD, List.getElem?_append_left h]
  · have e : i = l.length := by omega
    subst e
    rw [if_neg (by omega), if_pos (by omega), Nat.sub_self, hg]
    simp [List.getD_eq_getElem?_getD]

theorem fldF_set (l : List Fld) (j : Nat) (x : Fld) (hj : j < l.length) : ∀ i, putF (fldF l) j [.s x.1, .s x.2] i = fldF (l.set j x) i := by
  intro i
  unfold putF fldF
  by_cases h : i = j
  · subst h
    rw [if_pos rfl]
    simp [List.getD_eq_getElem?_getD, hj]
  · rw [if_neg h]
    simp [List.getD_eq_getElem?_getD, List.getElem?_set_ne (Ne.symm h)]

theorem Weak.sl_of {e n n' : Nat} {f g : Nat → List D} (hn : n = n') (h : ∀ i, i < n → f i = g i) (hp : ∀ i, i < n → (g i).all D.plain = true) : Weak (.sl e n f) (.sl e n' g) := by
  subst hn
  exact .sl e n f g (fun i hi => ⟨by rw [h i hi], hp i hi⟩) (fun i j hi hj => .of_eq (by rw [h i hi]))

set_option maxHeartbeats 4000000 in
theorem field_ctr (l : List Fld) (name kind : Txt) (hl : l.length ≤ 1048576) : Ctr Tryd.prog 36 [.sl 2 l.length (fldF l), .s name, .s kind] (.sl 2 (fieldV l name kind).length (fldF (fieldV l name kind))) := by
  refine r_fun Tryd.func36 rfl Tryd.ntmps36 Tryd.results36 rfl rfl fun X hL hX => ?_
  have hc := clone_ctr l hl
  have hi := indexF_ctr 56 l name (fun x y => field1_ctr x y name) Tryd.call56 (by omega)
  have hlt := idxI_lt name (l.map (·.1))
  rw [List.length_map] at hlt
  have hv : fieldV l name kind = if idxI name (l.map (·.1)) < 0 then l ++ [(name, kind)]
    else if (l.getD (idxI name (l.map (·.1))).toNat ([], [])).2 = kind then l
    else l.set (idxI name (l.map (·.1))).toNat ((l.getD (idxI name (l.map (·.1))).toNat ([], [])).1, [83, 116, 114, 105, 110, 103]) := rfl
  generalize idxI name (l.map (·.1)) = ix at hi hlt hv
  generalize fieldV l name kind = R at hv
  repeat' (first |with_reducible (first |refine t_seq ?_|refine t_region ?_|refine c_nil ?_|refine n_then ?_|refine t_ret ?_|refine t_skip ?_|refine t_exit ?_|refine t_block ?_|refine n_block ?_|refine e_then ?_|refine x_then ?_|refine x_block ?_|refine t_draw ?_)|refine r_val rfl rfl True.intro ?_|refine r_gskip rfl rfl rfl ?_|refine r_gskip2 rfl rfl rfl ?_|refine r_gval rfl rfl rfl rfl True.intro ?_|refine t_true rfl ?_|refine t_false rfl ?_|((first |refine t_cond_d rfl ?_ ?_|refine t_cond_i rfl ?_ ?_|refine t_cond_j rfl ?_ ?_|refine t_cond_s rfl ?_ ?_|refine t_cond_n rfl ?_ ?_|refine t_cond rfl ?_ ?_|refine c_split_d rfl rfl ?_ ?_|refine c_split_i rfl rfl ?_ ?_|refine c_split_j rfl rfl ?_ ?_|refine c_split_s rfl rfl ?_ ?_|refine c_split_n rfl rfl ?_ ?_)<;>intro<;>try (first |contradiction|(exfalso;omega)))|((first |refine r_val rfl rfl ?_ ?_|refine r_gval rfl rfl rfl rfl ?_ ?_|refine r_obj rfl rfl ?_ ?_|refine r_sto rfl ?_ ?_|refine r_gobj rfl rfl rfl rfl ?_ ?_);focus (first |omega|exact le_ rfl|(simp_all;done)|(simp_all;omega)|((repeat' refine And.intro ?_ ?_)<;>first |omega|rfl|exact Nat.le_refl _|exact le_ rfl|exact bytesF_one _|(simp_all;done)|(simp_all;omega))))|refine e_hit rfl ?_|refine e_miss rfl ?_|with_reducible refine ⟨by kernel_rfl, ?_⟩|refine r_callN (f := 54) rfl rfl Tryd.call54 rfl hc rfl ?_|refine r_callS (f := 55) rfl rfl Tryd.call55 ⟨⟨rfl, rfl⟩, ⟨rfl, trivial⟩, trivial⟩ rfl hi rfl ?_|refine x_endF [6] 10 rfl ⟨rfl, trivial⟩ rfl ?_|((with_reducible refine c_grd ?_);(fail_if_success (refine c_lit true rfl rfl rfl ?_));(fail_if_success (refine c_lit false rfl rfl rfl ?_));refine c_split rfl rfl (fun _ => ?_) (fun _ => ?_)))
  · rw [hv, if_pos (by assumption)]
    exact Weak.sl_of (by simp) (fldF_snoc l (name, kind) _ rfl) (fun i _ => rfl)
  · have hne : ¬ (l.getD ix.toNat ([], [])).2 = kind := by simpa using (by assumption : ((l.getD ix.toNat ([], [])).2 == kind) = false)
    rw [hv, if_neg (by assumption), if_neg hne]
    exact Weak.sl_of (by simp) (fun i hi => fldF_set l ix.toNat ((l.getD ix.toNat ([], [])).1, [83, 116, 114, 105, 110, 103]) (by omega) i) (fun i _ => rfl)
  · have hne : (l.getD ix.toNat ([], [])).2 = kind := by simpa using (by assumption : ((l.getD ix.toNat ([], [])).2 == kind) = true)
    rw [hv, if_neg (by assumption), if_pos hne]
    exact .refl _

def ff (l : List Fld) (f : Fld) : List Fld := fieldV l f.1 f.2
def outOf (out : List Vec) (v : Vec) : List Vec := if idxI v.1 (out.map (·.1)) < 0 then out ++ [(v.1, [])] else out
def atOf (out : List Vec) (v : Vec) : Nat := if idxI v.1 (out.map (·.1)) < 0 then out.length else (idxI v.1 (out.map (·.1))).toNat
def partOf (out : List Vec) (v : Vec) (m : Nat) : List Vec :=
  (outOf out v).set (atOf out v) (((outOf out v).getD (atOf out v) ([], [])).1, (v.2.take m).foldl ff ((outOf out v).getD (atOf out v) ([], [])).2)
def addV (out : List Vec) (v : Vec) : List Vec := partOf out v v.2.length
def mergeV (a b : List Vec) : List Vec := b.foldl addV a

def bnd (A F : Nat) (a : List Vec) : Prop := a.length ≤ A ∧ ∀ v ∈ a, v.1.length ≤ 1048576 ∧ v.2.length ≤ F ∧ ∀ f ∈ v.2, f.1.length ≤ 1048576 ∧ f.2.length ≤ 1048576

def soFar (a b : List Vec) (i : Nat) : List Vec := (b.take i).foldl addV a

theorem vtake_next {α : Type} (d : α) {a b : List α} {i : Nat} (h : a.take i = b.take i) (ha : i < a.length) (hb : i < b.length) (he : a.getD i d = b.getD i d) : a.take (i + 1) = b.take (i + 1) := by
  rw [List.take_add_one, List.take_add_one, h]
  simp only [List.getD_eq_getElem?_getD, List.getElem?_eq_getElem ha, List.getElem?_eq_getElem hb, Option.getD_some, Option.toList_some] at he ⊢
  rw [he]

theorem vtake_all {α : Type} {a b : List α} {i : Nat} (h : a.take i = b.take i) (hl : a.length = b.length) (hi : a.length ≤ i) : a = b := by
  rwa [List.take_of_length_le hi, List.take_of_length_le (by omega)] at h

set_option maxHeartbeats 8000000 in
theorem vsame_ctr (a b : List Vec) (ha : smallV a) (hb : smallV b) : Ctr Tryd.prog 22 [.sl 2 a.length (vecF a), .sl 2 b.length (vecF b)] (.b (decide (a = b))) := by
  refine r_fun Tryd.func22 rfl Tryd.ntmps22 Tryd.results22 rfl rfl fun X hL hX => ?_
  obtain ⟨ha1, ha2⟩ := ha
  obtain ⟨hb1, hb2⟩ := hb
  repeat' (first |with_reducible (first |refine t_seq ?_|refine t_region ?_|refine c_nil ?_|refine n_then ?_|refine t_ret ?_|refine t_skip ?_|refine t_exit ?_|refine t_block ?_|refine n_block ?_|refine e_then ?_|refine x_then ?_|refine x_block ?_|refine t_draw ?_)|refine r_val rfl rfl True.intro ?_|refine r_gskip rfl rfl rfl ?_|refine r_gskip2 rfl rfl rfl ?_|refine r_gval rfl rfl rfl rfl True.intro ?_|refine t_true rfl ?_|refine t_false rfl ?_|((first |refine t_cond_d rfl ?_ ?_|refine t_cond_i rfl ?_ ?_|refine t_cond_j rfl ?_ ?_|refine t_cond_s rfl ?_ ?_|refine t_cond_n rfl ?_ ?_|refine t_cond rfl ?_ ?_|refine c_split_d rfl rfl ?_ ?_|refine c_split_i rfl rfl ?_ ?_|refine c_split_j rfl rfl ?_ ?_|refine c_split_s rfl rfl ?_ ?_|refine c_split_n rfl rfl ?_ ?_)<;>intro<;>try (first |contradiction|(exfalso;omega)))|((first |refine r_val rfl rfl ?_ ?_|refine r_gval rfl rfl rfl rfl ?_ ?_|refine r_obj rfl rfl ?_ ?_|refine r_sto rfl ?_ ?_|refine r_gobj rfl rfl rfl rfl ?_ ?_);focus (first |omega|exact le_ rfl|((repeat' refine And.intro ?_ ?_)<;>first |omega|rfl|trivial|exact Nat.le_refl _|exact le_ rfl)|(simp only [Int.toNat_natCast] at *;(repeat' refine And.intro ?_ ?_)<;>first |omega|rfl|trivial|exact Nat.le_refl _|exact le_ rfl)))|refine e_hit rfl ?_|refine e_miss rfl ?_|with_reducible refine ⟨by kernel_rfl, ?_⟩|refine x_end rfl ?_|refine n_end rfl ?_|((with_reducible refine c_grd ?_);(fail_if_success (refine c_lit true rfl rfl rfl ?_));(fail_if_success (refine c_lit false rfl rfl rfl ?_));refine c_split rfl rfl (fun _ => ?_) (fun _ => ?_)))
  · have : a ≠ b := fun h => by subst h; contradiction
    simp [this]
  · have hlen : a.length = b.length := by omega
    refine T.loop hL (fun i : Nat => [(0, .sl 2 a.length (vecF a)), (1, .sl 2 b.length (vecF b)), (5, .i .i64 i)]) (fun _ => [])
      (fun i => i ≤ a.length ∧ a.take i = b.take i) (fun i => a.length - i) 0 ⟨by omega, by simp⟩
      ⟨⟨rfl, rfl, rfl, trivial⟩, trivial, rfl, by rw [hX]; simp⟩ ?_
    rintro i ⟨h1, h2⟩
    try dsimp only at h1 h2 ⊢
    have hi1 := (ha2 i).2.1
    have hi2 := (hb2 i).2.1
    clear ha2 hb2
    repeat' (first |with_reducible (first |refine t_seq ?_|refine t_region ?_|refine c_nil ?_|refine n_then ?_|refine t_ret ?_|refine t_skip ?_|refine t_exit ?_|refine t_block ?_|refine n_block ?_|refine e_then ?_|refine x_then ?_|refine x_block ?_|refine t_draw ?_)|refine r_val rfl rfl True.intro ?_|refine r_gskip rfl rfl rfl ?_|refine r_gskip2 rfl rfl rfl ?_|refine r_gval rfl rfl rfl rfl True.intro ?_|refine t_true rfl ?_|refine t_false rfl ?_|((first |refine t_cond_d rfl ?_ ?_|refine t_cond_i rfl ?_ ?_|refine t_cond_j rfl ?_ ?_|refine t_cond_s rfl ?_ ?_|refine t_cond_n rfl ?_ ?_|refine t_cond rfl ?_ ?_|refine c_split_d rfl rfl ?_ ?_|refine c_split_i rfl rfl ?_ ?_|refine c_split_j rfl rfl ?_ ?_|refine c_split_s rfl rfl ?_ ?_|refine c_split_n rfl rfl ?_ ?_)<;>intro<;>try (first |contradiction|(exfalso;omega)))|((first |refine r_val rfl rfl ?_ ?_|refine r_gval rfl rfl rfl rfl ?_ ?_|refine r_obj rfl rfl ?_ ?_|refine r_sto rfl ?_ ?_|refine r_gobj rfl rfl rfl rfl ?_ ?_);focus (first |omega|exact le_ rfl|((repeat' refine And.intro ?_ ?_)<;>first |omega|rfl|trivial|exact Nat.le_refl _|exact le_ rfl)|(simp only [Int.toNat_natCast] at *;(repeat' refine And.intro ?_ ?_)<;>first |omega|rfl|trivial|exact Nat.le_refl _|exact le_ rfl)))|refine e_hit rfl ?_|refine e_miss rfl ?_|with_reducible refine ⟨by kernel_rfl, ?_⟩|refine x_end rfl ?_|refine n_end rfl ?_|((with_reducible refine c_grd ?_);(fail_if_success (refine c_lit true rfl rfl rfl ?_));(fail_if_success (refine c_lit false rfl rfl rfl ?_));refine c_split rfl rfl (fun _ => ?_) (fun _ => ?_)))
    all_goals try simp only [Int.toNat_natCast] at *
    · have : a ≠ b := fun h => by subst h; simp at *
      simp [this]
    · have : a ≠ b := fun h => by subst h; contradiction
      simp [this]
    · have hid : (a.getD i ([], [])).1 = (b.getD i ([], [])).1 := by simpa using (by assumption : ((a.getD i ([], [])).1 == (b.getD i ([], [])).1) = true)
      have hfl : (a.getD i ([], [])).2.length = (b.getD i ([], [])).2.length := by omega
      refine T.loop hL (fun k : Nat => [(0, .sl 2 a.length (vecF a)), (1, .sl 2 b.length (vecF b)), (5, .i .i64 i), (6, .i .i64 k)]) (fun _ => [])
        (fun k => k ≤ (a.getD i ([], [])).2.length ∧ (a.getD i ([], [])).2.take k = (b.getD i ([], [])).2.take k) (fun k => (a.getD i ([], [])).2.length - k) 0 ⟨by omega, by simp⟩
        ⟨⟨rfl, rfl, rfl, rfl, trivial⟩, trivial, rfl, by rw [hX]; simp⟩ ?_
      rintro k ⟨g1, g2⟩
      try dsimp only at g1 g2 ⊢
      repeat' (first |with_reducible (first |refine t_seq ?_|refine t_region ?_|refine c_nil ?_|refine n_then ?_|refine t_ret ?_|refine t_skip ?_|refine t_exit ?_|refine t_block ?_|refine n_block ?_|refine e_then ?_|refine x_then ?_|refine x_block ?_|refine t_draw ?_)|refine r_val rfl rfl True.intro ?_|refine r_gskip rfl rfl rfl ?_|refine r_gskip2 rfl rfl rfl ?_|refine r_gval rfl rfl rfl rfl True.intro ?_|refine t_true rfl ?_|refine t_false rfl ?_|((first |refine t_cond_d rfl ?_ ?_|refine t_cond_i rfl ?_ ?_|refine t_cond_j rfl ?_ ?_|refine t_cond_s rfl ?_ ?_|refine t_cond_n rfl ?_ ?_|refine t_cond rfl ?_ ?_|refine c_split_d rfl rfl ?_ ?_|refine c_split_i rfl rfl ?_ ?_|refine c_split_j rfl rfl ?_ ?_|refine c_split_s rfl rfl ?_ ?_|refine c_split_n rfl rfl ?_ ?_)<;>intro<;>try (first |contradiction|(exfalso;omega)))|((first |refine r_val rfl rfl ?_ ?_|refine r_gval rfl rfl rfl rfl ?_ ?_|refine r_obj rfl rfl ?_ ?_|refine r_sto rfl ?_ ?_|refine r_gobj rfl rfl rfl rfl ?_ ?_);focus (first |omega|exact le_ rfl|((repeat' refine And.intro ?_ ?_)<;>first |omega|rfl|trivial|exact Nat.le_refl _|exact le_ rfl)|(simp only [Int.toNat_natCast] at *;(repeat' refine And.intro ?_ ?_)<;>first |omega|rfl|trivial|exact Nat.le_refl _|exact le_ rfl)))|refine e_hit rfl ?_|refine e_miss rfl ?_|with_reducible refine ⟨by kernel_rfl, ?_⟩|refine x_end rfl ?_|refine n_end rfl ?_|((with_reducible refine c_grd ?_);(fail_if_success (refine c_lit true rfl rfl rfl ?_));(fail_if_success (refine c_lit false rfl rfl rfl ?_));refine c_split rfl rfl (fun _ => ?_) (fun _ => ?_)))
      all_goals try simp only [Int.toNat_natCast] at *
      · have : a ≠ b := fun h => by subst h; simp at *
        simp [this]
      · have he : (a.getD i ([], [])).2.getD k ([], []) = (b.getD i ([], [])).2.getD k ([], []) := by
          have h := (by assumption : ((((a.getD i ([], [])).2.getD k ([], [])).1 == ((b.getD i ([], [])).2.getD k ([], [])).1) && (((a.getD i ([], [])).2.getD k ([], [])).2 == ((b.getD i ([], [])).2.getD k ([], [])).2)) = true)
          simp only [Bool.and_eq_true, beq_iff_eq] at h
          exact Prod.ext h.1 h.2
        exact ⟨k + 1, ⟨by omega, vtake_next ([], []) g2 (by omega) (by omega) he⟩, by omega, ⟨rfl, rfl, rfl, rfl, trivial⟩, trivial, rfl, by rw [hX]; simp⟩
      · have he : a.getD i ([], []) = b.getD i ([], []) := Prod.ext hid (vtake_all g2 hfl (by omega))
        exact ⟨i + 1, ⟨by omega, vtake_next ([], []) h2 (by omega) (by omega) he⟩, by omega, ⟨rfl, rfl, rfl, trivial⟩, trivial, rfl, by rw [hX]; simp⟩
    · have : a = b := vtake_all h2 hlen (by omega)
      simp [this]

def onceP (l : List Vec) : Prop := ∀ i, i < l.length → ∀ k, k < i → ¬ (l.getD k ([], [])).1 = (l.getD i ([], [])).1
instance (l : List Vec) : Decidable (onceP l) := by unfold onceP; infer_instance

abbrev Att := Txt × Int × Txt × Int
structure Feat where
  hid : Bool
  id : Int
  ty : Int
  pn : Nat
  pf : Nat → Nat × (Nat → List D)
  ats : List Att
abbrev Lay := Txt × Int × List Feat

def dA : Att := ([], 0, [], 0)
def dF : Feat := ⟨false, 0, 0, 0, fun _ => (0, fun _ => [.i .i64 0, .i .i64 0]), []⟩
def dL : Lay := ([], 0, [])

def pthF (p : Nat → Nat × (Nat → List D)) : Nat → List D := fun k => [.sl 2 (p k).1 (p k).2]
def attF (l : List Att) : Nat → List D := fun i => [.s (l.getD i dA).1, .i .i64 (l.getD i dA).2.1, .s (l.getD i dA).2.2.1, .i .u64 (l.getD i dA).2.2.2]
def featF (l : List Feat) : Nat → List D := fun i => [.b (l.getD i dF).hid, .i .u64 (l.getD i dF).id, .i .i64 (l.getD i dF).ty, .sl 1 (l.getD i dF).pn (pthF (l.getD i dF).pf), .sl 4 (l.getD i dF).ats.length (attF (l.getD i dF).ats)]
def layF (l : List Lay) : Nat → List D := fun i => [.s (l.getD i dL).1, .i .i64 (l.getD i dL).2.1, .sl 5 (l.getD i dL).2.2.length (featF (l.getD i dL).2.2)]

def smallA (l : List Att) : Prop := l.length ≤ 1048576 ∧ ∀ i, (l.getD i dA).1.length ≤ 1048576 ∧ (l.getD i dA).2.2.1.length ≤ 1048576
def smallFe (f : Feat) : Prop := f.pn ≤ 1048576 ∧ (∀ k, (f.pf k).1 ≤ 1048576) ∧ smallA f.ats
def smallL (l : List Lay) : Prop := l.length ≤ 1048576 ∧ ∀ i, (l.getD i dL).1.length ≤ 1048576 ∧ (l.getD i dL).2.2.length ≤ 1048576 ∧ ∀ k, smallFe ((l.getD i dL).2.2.getD k dF)

def pthW (p : Nat → Nat × (Nat → List D)) (k : Nat) (n : Int) : Option Int := if n + 1 + ((p k).1 : Int) > 300 then none else some (n + 1 + ((p k).1 : Int))
def muchP (pn : Nat) (p : Nat → Nat × (Nat → List D)) : Bool :=
  match scanO (pthW p) pn 40 0 0 with
  | none => true
  | some _ => decide (pn > 40)

def attW (l : List Att) (m : Nat) (n : Int) : Option Int := some (n + 2 + ((l.getD m dA).1.length : Int) + ((l.getD m dA).2.2.1.length : Int))
def featW (l : List Feat) (k : Nat) (n : Int) : Option Int :=
  if muchP (l.getD k dF).pn (l.getD k dF).pf = true ∨ (l.getD k dF).ats.length > 20 then none else scanO (attW (l.getD k dF).ats) (l.getD k dF).ats.length 20 0 n
def layW (l : List Lay) (i : Nat) (n : Int) : Option Int :=
  match scanO (featW (l.getD i dL).2.2) (l.getD i dL).2.2.length 40 0 (n + ((l.getD i dL).1.length : Int)) with
  | none => none
  | some m => if m > 1500 ∨ (l.getD i dL).2.2.length > 30 then none else some m
def muchL (l : List Lay) : Bool :=
  match scanO (layW l) l.length 12 0 0 with
  | none => true
  | some _ => decide (l.length > 10)

def attOk (a : List Vec) (nm : Txt) (f : Feat) : Prop := ∀ m, m < f.ats.length → (hasV a nm (f.ats.getD m dA).1).2 = true
def layOk (a : List Vec) (y : Lay) : Prop := 0 ≤ idxI y.1 (a.map (·.1)) ∧ ∀ k, k < y.2.2.length → attOk a y.1 (y.2.2.getD k dF)
def fitsP (a : List Vec) (l : List Lay) : Prop := ∀ i, i < l.length → layOk a (l.getD i dL)
instance (a : List Vec) (nm : Txt) (f : Feat) : Decidable (attOk a nm f) := by unfold attOk; infer_instance
instance (a : List Vec) (y : Lay) : Decidable (layOk a y) := by unfold layOk; infer_instance
instance (a : List Vec) (l : List Lay) : Decidable (fitsP a l) := by unfold fitsP; infer_instance

set_option maxHeartbeats 4000000 in
theorem mlive_ctr : Ctr Tryd.prog 19 [] (.b true) := by
  refine r_fun Tryd.func19 rfl Tryd.ntmps19 Tryd.results19 rfl rfl fun X hL hX => ?_
  have h1 := field_ctr [([97], [78, 117, 109, 98, 101, 114])] [97] [66, 111, 111, 108, 101, 97, 110] (by simp)
  have e1 : fieldV [([97], [78, 117, 109, 98, 101, 114])] [97] [66, 111, 111, 108, 101, 97, 110] = [([97], [83, 116, 114, 105, 110, 103])] := by decide
  rw [e1] at h1
  have h1' : Ctr Tryd.prog 36 [.sl 2 1 (chunk 2 [.s [97], .s [78, 117, 109, 98, 101, 114]]), .s [97], .s [66, 111, 111, 108, 101, 97, 110]] (.sl 2 1 (fldF [([97], [83, 116, 114, 105, 110, 103])])) :=
    h1.weak3 (Weak.sl_of rfl (fun i hi => by obtain rfl : i = 0 := by omega
                                             rfl) (fun i _ => rfl)) (.refl _) (.refl _)
  have h2 := field_ctr [([97], [83, 116, 114, 105, 110, 103])] [98] [78, 117, 109, 98, 101, 114] (by simp)
  have e2 : fieldV [([97], [83, 116, 114, 105, 110, 103])] [98] [78, 117, 109, 98, 101, 114] = [([97], [83, 116, 114, 105, 110, 103]), ([98], [78, 117, 109, 98, 101, 114])] := by decide
  rw [e2] at h2
  repeat' (first |with_reducible (first |refine t_seq ?_|refine t_region ?_|refine c_nil ?_|refine n_then ?_|refine t_ret ?_|refine t_skip ?_|refine t_exit ?_|refine t_block ?_|refine n_block ?_|refine e_then ?_|refine x_then ?_|refine x_block ?_|refine t_draw ?_)|refine r_val rfl rfl True.intro ?_|refine r_gskip rfl rfl rfl ?_|refine r_gskip2 rfl rfl rfl ?_|refine r_gval rfl rfl rfl rfl True.intro ?_|refine t_true rfl ?_|refine t_false rfl ?_|((first |refine t_cond_d rfl ?_ ?_|refine t_cond_i rfl ?_ ?_|refine t_cond_j rfl ?_ ?_|refine t_cond_s rfl ?_ ?_|refine t_cond_n rfl ?_ ?_|refine t_cond rfl ?_ ?_|refine c_split_d rfl rfl ?_ ?_|refine c_split_i rfl rfl ?_ ?_|refine c_split_j rfl rfl ?_ ?_|refine c_split_s rfl rfl ?_ ?_|refine c_split_n rfl rfl ?_ ?_)<;>intro<;>try (first |contradiction|(exfalso;omega)))|((first |refine r_val rfl rfl ?_ ?_|refine r_gval rfl rfl rfl rfl ?_ ?_|refine r_obj rfl rfl ?_ ?_|refine r_sto rfl ?_ ?_|refine r_gobj rfl rfl rfl rfl ?_ ?_);focus (first |omega|exact le_ rfl|(simp_all;done)|(simp_all;omega)|((repeat' refine And.intro ?_ ?_)<;>first |omega|rfl|exact Nat.le_refl _|exact le_ rfl|exact bytesF_one _|(simp_all;done)|(simp_all;omega))))|refine e_hit rfl ?_|refine e_miss rfl ?_|with_reducible refine ⟨by kernel_rfl, ?_⟩|refine x_end rfl ?_|refine n_end rfl ?_|refine r_call (f := 36) rfl rfl Tryd.call36 rfl h1' ?_|refine r_gcall (f := 36) rfl rfl rfl rfl Tryd.call36 rfl h2 ?_|((with_reducible refine c_grd ?_);(fail_if_success (refine c_lit true rfl rfl rfl ?_));(fail_if_success (refine c_lit false rfl rfl rfl ?_));refine c_split rfl rfl (fun _ => ?_) (fun _ => ?_)))
  all_goals rfl

def goodF (N B : Nat) (l : List Fld) : Prop := l.length ≤ N ∧ ∀ i, (l.getD i ([], [])).1.length ≤ B ∧ (l.getD i ([], [])).2.length ≤ B
def goodV (N B : Nat) (v : Vec) : Prop := v.1.length ≤ B ∧ goodF N B v.2
theorem goodF_nil (N B : Nat) : goodF N B [] := ⟨Nat.zero_le _, fun i => by simp⟩
theorem preF_at (ks : List Txt) (l : List J) (n i : Nat) (h : i < n) : (preF ks l n).getD i ([], []) = (ks.getD i [], (l.getD i j0).text) := by
  unfold preF
  simp [List.getD_eq_getElem?_getD, h]
theorem okJ_txt {B : Nat} {x : J} (h : okJ B x) (i : Nat) : (x.list.getD i j0).text.length ≤ B := by
  by_cases hi : i < x.list.length
  · exact (okJ_parts (okJ_at h hi)).2.1
  · rw [List.getD_eq_getElem?_getD, List.getElem?_eq_none (by omega)]
    exact Nat.zero_le _
theorem fieldsV_good {N B : Nat} {x : J} {l : List Fld} (hw : jw x ≤ N) (hk : okJ B x) (h : fieldsV x = some l) : goodF N B l := by
  unfold fieldsV at h
  have hk2 := okJ_get hk fieldsW
  have hw2 := getJ_w x fieldsW
  generalize getJ x fieldsW = r at *
  obtain ⟨y, ok⟩ := r
  dsimp only at h hk2 hw2
  have hy := jw_eq y
  have hl := jwL_len y.list
  split at h
  · split at h
    · cases h
      refine ⟨by rw [preF_len]; omega, fun i => ?_⟩
      by_cases hi : i < y.list.length
      · rw [preF_at _ _ _ _ hi]
        exact ⟨okJ_key hk2 i, okJ_txt hk2 i⟩
      · rw [List.getD_eq_getElem?_getD, List.getElem?_eq_none (by rw [preF_len]; omega)]
        exact ⟨Nat.zero_le _, Nat.zero_le _⟩
    · cases h
  · cases h
    exact goodF_nil N B
theorem layerV_good {N B : Nat} {y : J} {out : List Vec} {v : Vec} (hw : jw y ≤ N) (hk : okJ B y) (h : layerV y out = some v) : goodV N B v := by
  unfold layerV at h
  have hk2 := okJ_get hk idW
  split at h
  · have hf := @fieldsV_good N B y
    generalize fieldsV y = F at *
    cases F with
    | none => cases h
    | some f =>
      simp only [putId] at h
      split at h
      · cases h
      · cases h
        exact ⟨(okJ_parts hk2).2.1, hf hw hk rfl⟩
  · cases h
theorem laysV_good {N B : Nat} : ∀ {l : List J} {out r : List Vec}, (∀ y ∈ l, jw y ≤ N ∧ okJ B y) → (∀ v ∈ out, goodV N B v) → laysV l out = some r → r.length = out.length + l.length ∧ ∀ v ∈ r, goodV N B v
  | [], out, r, _, ho, h => by
    rw [laysV] at h
    cases h
    exact ⟨rfl, ho⟩
  | y :: l, out, r, hl, ho, h => by
    rw [laysV] at h
    cases hv : layerV y out with
    | none => rw [hv] at h; cases h
    | some v =>
      rw [hv] at h
      have hy := hl y List.mem_cons_self
      have ih := laysV_good (l := l) (out := out ++ [v]) (r := r) (fun z hz => hl z (List.mem_cons_of_mem _ hz)) (fun z hz => by
        rcases List.mem_append.1 hz with hz | hz
        · exact ho z hz
        · rw [List.mem_singleton.1 hz]
          exact layerV_good hy.1 hy.2 hv) h
      refine ⟨?_, ih.2⟩
      have := ih.1
      simp only [List.length_append, List.length_cons, List.length_nil] at this ⊢
      omega
theorem getD_of_mem {l : List J} {y : J} (h : y ∈ l) : ∃ i, i < l.length ∧ l.getD i j0 = y := by
  obtain ⟨i, hi, e⟩ := List.getElem_of_mem h
  exact ⟨i, hi, by simp [List.getD_eq_getElem?_getD, hi, e]⟩
theorem smallV_good {N B : Nat} {a : List Vec} (h1 : a.length ≤ N) (h2 : ∀ v ∈ a, goodV N B v) (hN : N ≤ 1048576) (hB : B ≤ 1048576) : smallV a := by
  refine ⟨by omega, fun i => ?_⟩
  by_cases hi : i < a.length
  · have e : a.getD i ([], []) = a[i] := by simp [List.getD_eq_getElem?_getD, hi]
    rw [e]
    obtain ⟨g1, g2, g3⟩ := h2 a[i] (List.getElem_mem hi)
    exact ⟨by omega, by omega, fun k => ⟨by have := (g3 k).1; omega, by have := (g3 k).2; omega⟩⟩
  · rw [List.getD_eq_getElem?_getD, List.getElem?_eq_none (by omega)]
    exact ⟨Nat.zero_le _, Nat.zero_le _, fun k => ⟨by simp, by simp⟩⟩
theorem small_nil : smallV [] := smallV_good (N := 0) (B := 0) (Nat.le_refl _) (fun v h => by cases h) (by decide) (by decide)
theorem read_small (s : List UInt8) (hs : s.length ≤ 1000) : smallV (readV s).1.1 := by
  have hw := jparse_w s
  have hk := jparse_k s
  unfold readV
  generalize jparse s = r at *
  obtain ⟨x, p, e⟩ := r
  dsimp only at hw hk ⊢
  split
  · split
    · unfold layPart
      have hk2 := okJ_get hk vlW
      have hw2 := getJ_w x vlW
      generalize getJ x vlW = q at *
      obtain ⟨y, ok⟩ := q
      dsimp only at hk2 hw2 ⊢
      have key : ∀ l, (if ok = true then layersV y else some []) = some l → smallV l := by
        intro l hl
        split at hl
        · unfold layersV at hl
          split at hl
          · have hy := jw_eq y
            have hyl := jwL_len y.list
            have g := laysV_good (N := s.length + 1) (B := 4 * s.length) (fun z hz => by
              obtain ⟨i, hi, rfl⟩ := getD_of_mem hz
              have := jwL_at hi
              exact ⟨by omega, okJ_at hk2 hi⟩) (fun v hv => by cases hv) hl
            exact smallV_good (N := s.length + 1) (by rw [g.1]; simp only [List.length_nil]; omega) g.2 (by omega) (by omega)
          · cases hl
        · cases hl
          exact small_nil
      generalize (if ok = true then layersV y else some []) = L at *
      cases L with
      | none => rw [joinI_bad (.inl rfl)]; exact small_nil
      | some l =>
        cases crePart x with
        | none => rw [joinI_bad (.inr rfl)]; exact small_nil
        | some c => exact key l rfl
    · exact small_nil
  · exact small_nil

theorem mcode_ctr (n : Int) : Ctr Tryd.prog 23 [.i .i64 n] (.i .i64 n) := by
  refine r_fun Tryd.func23 rfl Tryd.ntmps23 Tryd.results23 rfl rfl fun X hL hX => ?_
  repeat' (first |with_reducible (first |refine t_seq ?_|refine t_region ?_|refine c_nil ?_|refine n_then ?_|refine t_ret ?_|refine t_skip ?_|refine t_exit ?_|refine t_block ?_|refine n_block ?_|refine e_then ?_|refine x_then ?_|refine x_block ?_|refine t_draw ?_)|refine r_val rfl rfl True.intro ?_|refine r_gskip rfl rfl rfl ?_|refine r_gskip2 rfl rfl rfl ?_|refine r_gval rfl rfl rfl rfl True.intro ?_|refine t_true rfl ?_|refine t_false rfl ?_|((first |refine t_cond_d rfl ?_ ?_|refine t_cond_i rfl ?_ ?_|refine t_cond_j rfl ?_ ?_|refine t_cond_s rfl ?_ ?_|refine t_cond_n rfl ?_ ?_|refine t_cond rfl ?_ ?_|refine c_split_d rfl rfl ?_ ?_|refine c_split_i rfl rfl ?_ ?_|refine c_split_j rfl rfl ?_ ?_|refine c_split_s rfl rfl ?_ ?_|refine c_split_n rfl rfl ?_ ?_)<;>intro<;>try (first |(rename_i hz;first |exact tf_ hz|exact ft_ hz)|(exfalso;omega)))|((first |refine r_val rfl rfl ?_ ?_|refine r_gval rfl rfl rfl rfl ?_ ?_|refine r_obj rfl rfl ?_ ?_|refine r_sto rfl ?_ ?_|refine r_gobj rfl rfl rfl rfl ?_ ?_);focus (first |omega|exact le_ rfl|((repeat first |rw [wrap_u8]|rw [IntKind.wrap_i64]|rw [IntKind.wrap_i32]|rw [wrap_u32']|rw [wrap_u64']);(repeat' refine And.intro ?_ ?_)<;>omega)|((repeat' refine And.intro ?_ ?_)<;>first |omega|rfl|exact Nat.le_refl _|exact le_ rfl|exact bytesF_one _)|(simp_all;done)|(simp_all;omega)))|refine e_hit rfl ?_|refine e_miss rfl ?_|with_reducible refine ⟨by kernel_rfl, ?_⟩|refine x_end rfl ?_|((with_reducible refine c_grd ?_);(fail_if_success (refine c_lit true rfl rfl rfl ?_));(fail_if_success (refine c_lit false rfl rfl rfl ?_));refine c_split rfl rfl (fun _ => ?_) (fun _ => ?_)))
  all_goals rfl

set_option maxRecDepth 100000 in
set_option maxHeartbeats 8000000 in
theorem metaReads_ctr (s : List UInt8) (hs : s.length ≤ 1048576) : Ctr Tryd.prog 6 [.sl 1 s.length (bytesF s)] (.b true) := by
  have cl := mlive_ctr
  refine r_fun Tryd.func6 rfl Tryd.ntmps6 Tryd.results6 rfl rfl fun X hL hX => ?_
  by_cases h : s.length ≤ 1000
  rotate_left
  · skip
    repeat' (first |refine r_call (f := 19) rfl rfl Tryd.call19 rfl cl ?_|refine r_gcall (f := 19) rfl rfl rfl rfl Tryd.call19 rfl cl ?_|with_reducible (first |refine t_seq ?_|refine t_region ?_|refine c_nil ?_|refine n_then ?_|refine t_ret ?_|refine t_skip ?_|refine t_exit ?_|refine t_block ?_|refine n_block ?_|refine e_then ?_|refine x_then ?_|refine x_block ?_|refine t_draw ?_)|refine r_val rfl rfl True.intro ?_|refine r_gskip rfl rfl rfl ?_|refine r_gskip2 rfl rfl rfl ?_|refine r_gval rfl rfl rfl rfl True.intro ?_|refine t_true rfl ?_|refine t_false rfl ?_|((first |refine t_cond_d rfl ?_ ?_|refine t_cond_i rfl ?_ ?_|refine t_cond_j rfl ?_ ?_|refine t_cond_s rfl ?_ ?_|refine t_cond_n rfl ?_ ?_|refine t_cond rfl ?_ ?_|refine c_split_d rfl rfl ?_ ?_|refine c_split_i rfl rfl ?_ ?_|refine c_split_j rfl rfl ?_ ?_|refine c_split_s rfl rfl ?_ ?_|refine c_split_n rfl rfl ?_ ?_)<;>intro<;>try (first |(rename_i hz;first |exact tf_ hz|exact ft_ hz)|(exfalso;omega)))|((first |refine r_val rfl rfl ?_ ?_|refine r_gval rfl rfl rfl rfl ?_ ?_|refine r_obj rfl rfl ?_ ?_|refine r_sto rfl ?_ ?_|refine r_gobj rfl rfl rfl rfl ?_ ?_);focus (first |omega|exact le_ rfl|((repeat first |rw [wrap_u8]|rw [IntKind.wrap_i64]|rw [IntKind.wrap_i32]|rw [wrap_u32']|rw [wrap_u64']);(repeat' refine And.intro ?_ ?_)<;>omega)|((repeat' refine And.intro ?_ ?_)<;>first |omega|rfl|exact Nat.le_refl _|exact le_ rfl|exact bytesF_one _)|(simp_all;done)|(simp_all;omega)))|refine e_hit rfl ?_|refine e_miss rfl ?_|with_reducible refine ⟨by kernel_rfl, ?_⟩|refine x_end rfl ?_|((with_reducible refine c_grd ?_);(fail_if_success (refine c_lit true rfl rfl rfl ?_));(fail_if_success (refine c_lit false rfl rfl rfl ?_));refine c_split rfl rfl (fun _ => ?_) (fun _ => ?_)))
    all_goals rfl
  have c1 := read_ctr s hs
  have c2 := rread_ctr s (by omega)
  have hsm := read_small s h
  generalize readV s = r at *
  obtain ⟨⟨l, c⟩, e⟩ := r
  dsimp only at hsm
  have c3 := vsame_ctr l l hsm hsm
  rw [decide_eq_true rfl] at c3
  have c4 := mcode_ctr e
  repeat' (first |refine r_call (f := 20) rfl rfl Tryd.call20 rfl c1 ?_|refine r_call (f := 21) rfl rfl Tryd.call21 rfl c2 ?_|refine r_call (f := 22) rfl rfl Tryd.call22 rfl c3 ?_|refine r_gcall (f := 23) rfl rfl rfl rfl Tryd.call23 rfl c4 ?_|refine r_call (f := 19) rfl rfl Tryd.call19 rfl cl ?_|refine r_gcall (f := 19) rfl rfl rfl rfl Tryd.call19 rfl cl ?_|with_reducible (first |refine t_seq ?_|refine t_region ?_|refine c_nil ?_|refine n_then ?_|refine t_ret ?_|refine t_skip ?_|refine t_exit ?_|refine t_block ?_|refine n_block ?_|refine e_then ?_|refine x_then ?_|refine x_block ?_|refine t_draw ?_)|refine r_val rfl rfl True.intro ?_|refine r_gskip rfl rfl rfl ?_|refine r_gskip2 rfl rfl rfl ?_|refine r_gval rfl rfl rfl rfl True.intro ?_|refine t_true rfl ?_|refine t_false rfl ?_|((first |refine t_cond_d rfl ?_ ?_|refine t_cond_i rfl ?_ ?_|refine t_cond_j rfl ?_ ?_|refine t_cond_s rfl ?_ ?_|refine t_cond_n rfl ?_ ?_|refine t_cond rfl ?_ ?_|refine c_split_d rfl rfl ?_ ?_|refine c_split_i rfl rfl ?_ ?_|refine c_split_j rfl rfl ?_ ?_|refine c_split_s rfl rfl ?_ ?_|refine c_split_n rfl rfl ?_ ?_)<;>intro<;>try (first |(rename_i hz;first |exact tf_ hz|exact ft_ hz)|(exfalso;omega)))|((first |refine r_val rfl rfl ?_ ?_|refine r_gval rfl rfl rfl rfl ?_ ?_|refine r_obj rfl rfl ?_ ?_|refine r_sto rfl ?_ ?_|refine r_gobj rfl rfl rfl rfl ?_ ?_);focus (first |omega|exact le_ rfl|((repeat first |rw [wrap_u8]|rw [IntKind.wrap_i64]|rw [IntKind.wrap_i32]|rw [wrap_u32']|rw [wrap_u64']);(repeat' refine And.intro ?_ ?_)<;>omega)|((repeat' refine And.intro ?_ ?_)<;>first |omega|rfl|exact Nat.le_refl _|exact le_ rfl|exact bytesF_one _)|(simp_all;done)|(simp_all;omega)))|refine e_hit rfl ?_|refine e_miss rfl ?_|with_reducible refine ⟨by kernel_rfl, ?_⟩|refine x_end rfl ?_|((with_reducible refine c_grd ?_);(fail_if_success (refine c_lit true rfl rfl rfl ?_));(fail_if_success (refine c_lit false rfl rfl rfl ?_));refine c_split rfl rfl (fun _ => ?_) (fun _ => ?_)))
  all_goals first | rfl | exact absurd rfl (by assumption)

end Go.Proofs.YtbegohehjkjnmaaDoor.Flow

namespace Go.Proofs.YtbegohehjkjnmaaDoor.Flow
open Go.ChangeShapes Go.WideShapes Go.ChangeAt Go.RowKit

theorem prog_own : ownKnob Tryd.prog.godebug = none := by kernel_rfl
theorem prog_laid : laidOutB Tryd.prog = true := by kernel_rfl

variable {H : Type} {enc : TypeId × Value → H}

def allOf (W : World) : Cells := fun b _ => b < W.heap.size

theorem below_of_hist {W W' : World} {S' : Cells} (h : Hist { w0 := W, S0 := allOf W, L := fun _ => False } W' S') : Below W.heap.size W W' :=
  ⟨h.os, h.tape, h.output, h.size, fun k hk => h.block k hk (fun h => h)⟩

theorem trodAll_below {W W' : World} (hb : Below W.heap.size W W') {sp : Nat → Bool} : ∀ {ts : List TypeId} {vs : List Value} {ds : List (DataW H)} {ps : List MemPlace}, (∀ t ∈ ts, Tryd.prog.readableRec t = true ∧ t < Tryd.prog.types.size) → (∀ x ∈ ps, x.block < W.heap.size) →
    DataW.TrodAll enc Tryd.prog W 0 (fun _ => true) true ts vs ds ps → (∀ p ∈ ps, sp p.block = true) → DataW.TrodAll enc Tryd.prog W' 0 sp true ts vs ds ps
  | [], [], [], _, _, _, h, _ => h
  | [], [], _ :: _, _, _, _, h, _ => h.elim
  | [], _ :: _, _, _, _, _, h, _ => h.elim
  | _ :: _, [], _, _, _, _, h, _ => h.elim
  | _ :: _, _ :: _, [], _, _, _, h, _ => h.elim
  | t :: ts, v :: vs, d :: ds, ps, ht, hlt, h, hsp => by
    obtain ⟨p, q, h1, h2, rfl⟩ := h
    refine ⟨p, q, ?_, trodAll_below hb (fun t ht' => ht t (by simp [ht'])) (fun x hx => hlt x (by simp [hx])) h2 (fun x hx => hsp x (by simp [hx])), rfl⟩
    exact WideElems.Trod_stays prog_laid (ht t (by simp)).1 (ht t (by simp)).2 h1 (fun x hx => hb.same (hlt x (by simp [hx]))) (fun x hx => hsp x (by simp [hx]))

theorem law_post {f : Func} {s : ChangeSpec} {apart fresh handsOn : Bool} {W W' : World} {args : Array Value} {ds gs : List (DataW H)} {before : List MemPlace} {t : TypeId}
    (hW : DataW.Whole enc Tryd.prog f.params.toList s.vars apart W args.toList ds gs before) (hvars : s.vars = []) (hpar : ∀ t ∈ f.params.toList, Tryd.prog.readableRec t = true ∧ t < Tryd.prog.types.size)
    (hres : f.resultTypes = #[t]) (ht : Tryd.prog.underlying t = some .bool) (hspec : s.fn H (ds ++ gs) = { results := [.lit (.bool true)], args := ds }) (hb : Below W.heap.size W W') :
    s.post enc Tryd.prog f apart fresh handsOn false W args (.bool true) W' := by
  have hW' := hW
  obtain ⟨p, q, hA, hV, rfl, hfz, hnd⟩ := hW
  rw [hvars] at hV
  have hq : gs = [] ∧ q = [] := by
    cases gs with
    | nil => exact ⟨rfl, hV⟩
    | cons => exact hV.elim
  obtain ⟨rfl, rfl⟩ := hq
  have hlt : ∀ x ∈ p, x.block < W.heap.size := fun x hx => by simpa using hW'.lt x (by simpa using hx)
  refine ⟨ds, [], p ++ [], [], p, [], hW', ?_, ?_, ?_, hb.frame _, fun h => nomatch h⟩
  · rw [hspec, hres]
    exact trodAll_mk1 (shut_bool ht true)
  · rw [hspec]
    exact trodAll_below hb hpar hlt hA (fun x hx => by simpa using hlt x hx)
  · rw [hspec, hvars]
    rfl

set_option maxRecDepth 100000
variable {H : Type} {enc : TypeId × Value → H} {W : World}

def strOf : DataW H → List UInt8
  | .lit (.string l) => l
  | _ => []
def intOf : DataW H → Int
  | .lit (.int _ n) => n
  | _ => 0
def boolOf : DataW H → Bool
  | .lit (.bool b) => b
  | _ => false
def kids : DataW H → List (DataW H)
  | .slice es _ => es
  | .agg ps => ps
  | _ => []

def Tells (enc : TypeId × Value → H) (W : World) (t z : Nat) (G : DataW H → List D) : Prop :=
  ∀ fuel cs x, DataW.trod enc Tryd.prog W 0 (fun _ => true) true fuel t cs = some x → cs.length = z ∧ (G x.1).length = z ∧ (G x.1).all D.plain = true ∧ ∀ j, j < z → Rel (allOf W) W noRho ((G x.1).getD j .any) (cs.getD j undef)

theorem tells_str {t : TypeId} (ht : Tryd.prog.underlying t = some .string) : Tells enc W t 1 (fun d => [.s (strOf d)]) := fun fuel cs x h => by
  obtain ⟨s, rfl, rfl, _⟩ := DataW.trod_string ht h
  refine ⟨rfl, rfl, rfl, fun j hj => ?_⟩
  obtain rfl : j = 0 := by omega
  exact .s _ s.data.toList

theorem tells_int {t : TypeId} {k : IntKind} (ht : Tryd.prog.underlying t = some (.int k)) : Tells enc W t 1 (fun d => [.i k (intOf d)]) := fun fuel cs x h => by
  obtain ⟨n, rfl, rfl, _⟩ := DataW.trod_int ht h
  refine ⟨rfl, rfl, rfl, fun j hj => ?_⟩
  obtain rfl : j = 0 := by omega
  exact .i _ k n

theorem tells_bool {t : TypeId} (ht : Tryd.prog.underlying t = some .bool) : Tells enc W t 1 (fun d => [.b (boolOf d)]) := fun fuel cs x h => by
  obtain ⟨b, rfl, rfl⟩ := DataW.trod_bool ht h
  refine ⟨rfl, rfl, rfl, fun j hj => ?_⟩
  obtain rfl : j = 0 := by omega
  exact .b _ b

theorem tells_slice {t e z : Nat} {G : DataW H → List D} (ht : Tryd.prog.underlying t = some (.slice e)) (hc : Tryd.prog.cellsOf e = z) (hz : 0 < z) (hG : Tells enc W e z G) :
    Tells enc W t 1 (fun d => [.sl z (kids d).length (fun i => G ((kids d).getD i .nil))]) := fun fuel cs x h => by
  rcases DataW.trod_slice ht h with ⟨rfl, rfl⟩ | ⟨a, len, cap, elems, rest, n, rfl, rfl, rfl, hb, hl, hm, hlen, hel, _, _⟩
  · refine ⟨rfl, rfl, rfl, fun j hj => ?_⟩
    obtain rfl : j = 0 := by omega
    exact .sl _ z 0 _ none 0 (fun _ _ => undef) (Nat.le_refl _) (by unfold maxLen; omega) (fun i hi => by omega) (fun i j hi => by omega) (fun i j hi => by omega)
  · refine ⟨rfl, rfl, rfl, fun j hj => ?_⟩
    obtain rfl : j = 0 := by omega
    have each : ∀ i, i < len → ∃ cs' y, elems[i]? = some y ∧ W.cells? 0 (a.add (i * z)) z = some cs' ∧ DataW.trod enc Tryd.prog W 0 (fun _ => true) true n e cs' = some y := fun i hi => by
      have h1 := hel i hi
      have hi' : i < elems.length := by omega
      rw [hc, List.getElem?_eq_getElem hi'] at h1
      cases hcs : W.cells? 0 (a.add (i * z)) z with
      | none => rw [hcs] at h1; cases h1
      | some cs' =>
        rw [hcs] at h1
        exact ⟨cs', elems[i], List.getElem?_eq_getElem hi', rfl, h1⟩
    have hlen' : (elems.map (·.1)).length = len := by simp [hlen]
    have hk : ∀ i y, elems[i]? = some y → (elems.map (·.1)).getD i .nil = y.1 := fun i y hy => by
      simp [List.getD_eq_getElem?_getD, hy]
    have hspot : 0 < len → a.spot = none := fun h0 => by
      obtain ⟨cs', y, _, h2, h3⟩ := each 0 h0
      obtain ⟨_, hn, h4⟩ := World.cells?_some h2
      have h5 := h4 0 hz
      have hlt : 0 < cs'.length := by omega
      rw [List.getElem?_eq_getElem hlt] at h5
      cases hsp : a.spot with
      | none => rfl
      | some k =>
        exfalso
        simp only [Nat.zero_mul, Addr.add, if_true, World.cell?, hsp, Option.isSome_some] at h5
        split at h5 <;> simp at h5
    have hcl : ∀ i j, i < len → j < z → ∃ cs' y v, elems[i]? = some y ∧ DataW.trod enc Tryd.prog W 0 (fun _ => true) true n e cs' = some y ∧ cs'[j]? = some v ∧ W.cell? ⟨a.block, a.off + i * z + j, none⟩ = some v := fun i j hi hj => by
      obtain ⟨cs', y, h1, h2, h3⟩ := each i hi
      obtain ⟨_, hn, h4⟩ := World.cells?_some h2
      have h5 := h4 j hj
      have hlt : j < cs'.length := by omega
      rw [List.getElem?_eq_getElem hlt] at h5
      refine ⟨cs', y, cs'[j], h1, h3, List.getElem?_eq_getElem hlt, ?_⟩
      rw [← h5]
      have hsp := hspot (by omega)
      congr 1
      obtain ⟨ab, ao, asp⟩ := a
      simp only at hsp
      subst hsp
      simp only [Addr.add]
      split <;> split <;> simp_all <;> omega
    have hcell := fun i j hi hj => hcl i j hi hj
    show Rel (allOf W) W noRho (.sl z (elems.map (·.1)).length (fun i => G ((elems.map (·.1)).getD i .nil))) (.slice (some a) len cap)
    rw [hlen']
    refine .sl _ z len _ (some a) cap (fun i j => (W.cell? ⟨a.block, a.off + i * z + j, none⟩).getD undef) (by omega) hm (fun i hi => ?_) (fun i j hi hj => ?_) (fun i j hi hj => ?_)
    · obtain ⟨cs', y, h1, _, h3⟩ := each i hi
      rw [hk i y h1]
      have := hG _ _ _ h3
      exact ⟨this.2.1, this.2.2.1⟩
    · obtain ⟨cs', y, v, _, _, _, h4⟩ := hcl i j hi hj
      refine ⟨a.block, a.off, ?_, ?_, by rw [h4]; rfl⟩
      · have hsp := hspot (by omega)
        obtain ⟨ab, ao, asp⟩ := a
        simp only at hsp
        subst hsp
        rfl
      · show a.block < W.heap.size
        unfold World.cell? at h4
        split at h4
        · rename_i hh
          exact (Array.getElem?_eq_some_iff.1 hh).1
        · cases h4
    · obtain ⟨cs', y, v, h1, h2, h3, h4⟩ := hcl i j hi hj
      rw [hk i y h1, h4]
      have := (hG _ _ _ h2).2.2.2 j hj
      rw [List.getD_eq_getElem?_getD (l := cs'), h3] at this
      exact this

inductive TellsF (enc : TypeId × Value → H) (W : World) : List Field → Nat → List (DataW H → List D) → Nat → Prop
  | nil (off : Nat) : TellsF enc W [] off [] off
  | cons (f : Field) (fs : List Field) (off z N : Nat) (G : DataW H → List D) (Gs : List (DataW H → List D)) (ho : f.offset = off) (hc : Tryd.prog.cellsOf f.type = z) (hG : Tells enc W f.type z G) (h : TellsF enc W fs (off + z) Gs N) : TellsF enc W (f :: fs) off (G :: Gs) N

def catG : List (DataW H → List D) → List (DataW H) → List D
  | [], _ => []
  | g :: r, l => g (l.getD 0 .nil) ++ catG r (l.drop 1)

theorem arg_str {base : Nat} {t : TypeId} {v : Value} {d : DataW H} {ps : List MemPlace} (ht : Tryd.prog.underlying t = some .string) (hv : Value.okWide Tryd.prog W .any base t v) (h : DataW.Trod enc Tryd.prog W 0 (fun _ => true) true t v d ps) : Rel (allOf W) W noRho (.s (strOf d)) v := by
  obtain ⟨s, rfl⟩ := okWide_string ht hv
  obtain ⟨fuel, hf⟩ := h
  have := (tells_str ht _ _ _ hf).2.2.2 0 (by omega)
  exact this
theorem arg_int {base : Nat} {t : TypeId} {k : IntKind} {v : Value} {d : DataW H} {ps : List MemPlace} (ht : Tryd.prog.underlying t = some (.int k)) (hv : Value.okWide Tryd.prog W .any base t v) (h : DataW.Trod enc Tryd.prog W 0 (fun _ => true) true t v d ps) : Rel (allOf W) W noRho (.i k (intOf d)) v := by
  obtain ⟨s, rfl⟩ := okWide_int ht hv
  obtain ⟨fuel, hf⟩ := h
  have := (tells_int ht _ _ _ hf).2.2.2 0 (by omega)
  exact this
theorem arg_bool {base : Nat} {t : TypeId} {v : Value} {d : DataW H} {ps : List MemPlace} (ht : Tryd.prog.underlying t = some .bool) (hv : Value.okWide Tryd.prog W .any base t v) (h : DataW.Trod enc Tryd.prog W 0 (fun _ => true) true t v d ps) : Rel (allOf W) W noRho (.b (boolOf d)) v := by
  obtain ⟨s, rfl⟩ := okWide_bool ht hv
  obtain ⟨fuel, hf⟩ := h
  have := (tells_bool ht _ _ _ hf).2.2.2 0 (by omega)
  exact this
theorem arg_slice {base : Nat} {t e z : Nat} {v : Value} {d : DataW H} {ps : List MemPlace} {G : DataW H → List D} (ht : Tryd.prog.underlying t = some (.slice e)) (hc : Tryd.prog.cellsOf e = z) (hz : 0 < z) (hG : Tells enc W e z G)
    (hv : Value.okWide Tryd.prog W .any base t v) (h : DataW.Trod enc Tryd.prog W 0 (fun _ => true) true t v d ps) : Rel (allOf W) W noRho (.sl z (kids d).length (fun i => G ((kids d).getD i .nil))) v := by
  obtain ⟨a, len, cap, rfl⟩ := okWide_slice ht hv
  obtain ⟨fuel, hf⟩ := h
  have := (tells_slice ht hc hz hG _ _ _ hf).2.2.2 0 (by omega)
  exact this
theorem arg_struct {base : Nat} {t z : Nat} {fs : Array Field} {v : Value} {d : DataW H} {ps : List MemPlace} {G : DataW H → List D} (ht : Tryd.prog.underlying t = some (.struct fs)) (hG : Tells enc W t z G)
    (hv : Value.okWide Tryd.prog W .any base t v) (h : DataW.Trod enc Tryd.prog W 0 (fun _ => true) true t v d ps) : Rel (allOf W) W noRho (.ag (G d)) v := by
  obtain ⟨cs, rfl, hs⟩ := okWide_struct ht hv
  obtain ⟨fuel, hf⟩ := h
  obtain ⟨h1, h2, h3, h4⟩ := hG _ _ _ hf
  replace h2 : (G d).length = z := h2
  have h1' : cs.size = z := by simpa [Value.cells] using h1
  refine .ag _ _ cs (by omega) (fun j hj => ?_)
  have := h4 j (by omega)
  simpa [Value.cells, Array.getD_eq_getD_getElem?, List.getD_eq_getElem?_getD] using this

theorem bulk_one (d : DataW H) : 1 ≤ Rows.uptoBulk d := by
  cases d with
  | lit l => cases l <;> simp [Rows.uptoBulk]
  | _ => simp [Rows.uptoBulk]

theorem bulk_len : ∀ (l : List (DataW H)), l.length ≤ Rows.uptoBulkAll l
  | [] => by simp
  | x :: r => by
    have := bulk_one x
    have := bulk_len r
    simp only [Rows.uptoBulkAll, List.length_cons]
    omega

theorem bulk_kids (d : DataW H) : Rows.uptoBulkAll (kids d) ≤ Rows.uptoBulk d := by
  cases d <;> simp [kids, Rows.uptoBulk, Rows.uptoBulkAll] <;> omega

theorem map_getD {α β : Type} (f : α → β) (l : List α) (a : α) (i : Nat) : (l.map f).getD i (f a) = f (l.getD i a) := by
  simp only [List.getD_eq_getElem?_getD, List.getElem?_map]
  cases l[i]? <;> rfl

end Go.Proofs.YtbegohehjkjnmaaDoor.Flow

namespace Go.Proofs.YtbegohehjkjnmaaDoor.Flow
open Go Go.RowKit

section
variable {H : Type} {enc : TypeId × Value → H} {W : World}

def oct (d : DataW H) : UInt8 := UInt8.ofNat (intOf d).toNat
def octs (d : DataW H) : List UInt8 := (kids d).map oct

theorem tells_oct {t : TypeId} (ht : Tryd.prog.underlying t = some (.int .u8)) : Tells enc W t 1 (fun d => [.i .u8 ((oct d).toNat : Int)]) := fun fuel cs x h => by
  obtain ⟨n, rfl, rfl, hw⟩ := DataW.trod_int ht h
  refine ⟨rfl, rfl, rfl, fun j hj => ?_⟩
  obtain rfl : j = 0 := by omega
  have e1 : IntKind.u8.min ≤ n ∧ n ≤ IntKind.u8.max := by simpa [Lit.wf] using hw
  have e2 : IntKind.u8.min = 0 := by decide
  have e3 : IntKind.u8.max = 255 := by decide
  have e : ((oct (H := H) (.lit (.int .u8 n))).toNat : Int) = n := by
    show ((UInt8.ofNat n.toNat).toNat : Int) = n
    rw [UInt8.toNat_ofNat']
    omega
  dsimp only
  rw [e]
  exact .i _ .u8 n

theorem octs_told (l : List (DataW H)) : D.sl 1 l.length (fun i => [D.i .u8 ((oct (l.getD i .nil)).toNat : Int)]) = .sl 1 (l.map oct).length (bytesF (l.map oct)) := by
  rw [List.length_map]
  congr 1
  funext i
  have e0 : oct (DataW.nil : DataW H) = 0 := rfl
  have e : (l.map oct).getD i 0 = oct (l.getD i .nil) := by rw [← e0]; exact map_getD oct l .nil i
  unfold bytesF
  rw [e]

set_option maxRecDepth 100000 in
theorem arg_octs {base : Nat} {v : Value} {d : DataW H} {ps : List MemPlace} (hv : Value.okWide Tryd.prog W .any base 44 v) (h : DataW.Trod enc Tryd.prog W 0 (fun _ => true) true 44 v d ps) :
    Rel (allOf W) W noRho (.sl 1 (octs d).length (bytesF (octs d))) v := by
  have k := arg_slice (enc := enc) Tryd.underlying44 (by kernel_rfl) (by omega) (tells_oct Tryd.underlying5) hv h
  rwa [octs_told] at k

theorem octs_len {d : DataW H} (h : Rows.uptoBulk d ≤ 1048576) : (octs d).length ≤ 1048576 := by
  have := Nat.le_trans (bulk_len (kids d)) (bulk_kids d)
  unfold octs
  rw [List.length_map]
  omega
end

end Go.Proofs.YtbegohehjkjnmaaDoor.Flow
