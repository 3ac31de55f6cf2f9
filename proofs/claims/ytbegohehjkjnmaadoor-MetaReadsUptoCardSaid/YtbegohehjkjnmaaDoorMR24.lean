/- The texts RN3, RN4, one behind the other. -/
import Derived.Test.YtbegohehjkjnmaaDoorMR20
import Derived.Test.YtbegohehjkjnmaaDoorMR23
namespace Go.Proofs.YtbegohehjkjnmaaDoor.Flow
open Go

def fieldsW : Txt := [102, 105, 101, 108, 100, 115]
def allTx (l : List J) : Prop := ∀ i, i < l.length → (l.getD i j0).kind = 3
instance (l : List J) : Decidable (allTx l) := by unfold allTx; infer_instance
theorem first_bad {l : List J} (h : ¬ allTx l) : ∃ m, m < l.length ∧ ¬ (l.getD m j0).kind = 3 ∧ ∀ j, j < m → (l.getD j j0).kind = 3 := by
  have key : ∀ n, n ≤ l.length → (∀ j, j < n → (l.getD j j0).kind = 3) ∨ ∃ m, m < l.length ∧ ¬ (l.getD m j0).kind = 3 ∧ ∀ j, j < m → (l.getD j j0).kind = 3 := by
    intro n
    induction n with
    | zero => exact fun _ => .inl fun j hj => by omega
    | succ n ih =>
      intro hn
      rcases ih (by omega) with h1 | h1
      · by_cases hk : (l.getD n j0).kind = 3
        · refine .inl fun j hj => ?_
          by_cases e : j = n
          · rw [e]; exact hk
          · exact h1 j (by omega)
        · exact .inr ⟨n, by omega, hk, h1⟩
      · exact .inr h1
  rcases key l.length (Nat.le_refl _) with h1 | h1
  · exact absurd h1 h
  · exact h1
def fieldsV (x : J) : Option (List Fld) :=
  if (getJ x fieldsW).2 = true then
    if (getJ x fieldsW).1.kind = 5 ∧ allTx (getJ x fieldsW).1.list then some (preF (getJ x fieldsW).1.keys (getJ x fieldsW).1.list (getJ x fieldsW).1.list.length) else none
  else some []
def fieldsD : Option (List Fld) → D
  | some l => .tu [.sl 2 l.length (fldF l), .b true]
  | none => .tu [.sl 2 0 (fldF []), .b false]
theorem fieldsD_free (r : Option (List Fld)) : (fieldsD r).free = true := by cases r <;> rfl
theorem nil_fields (b : Bool) : Weak (.tu [.nilS, .b b]) (.tu [.sl 2 0 (fldF []), .b b]) := .tu2 (.nil 2 _) (.refl _)
theorem getD_Q (r : J × Bool) : Weak (getD r) (.tu [.ag (jQ r.1), .b r.2]) := .tu2 (jP_Q r.1) (.refl _)

theorem getJ_w (x : J) (k : List UInt8) : jw (getJ x k).1 ≤ jw x := by
  unfold getJ
  split
  · rename_i h
    have := jw_eq x
    have := jwL_at (l := x.list) (i := (idxJ k x.keys).toNat) (by omega)
    dsimp only
    omega
  · have := jw_pos x
    exact this
abbrev cell57 (y : J) : Ow := [(2, .var [.nilS]), (3, .var [.b false]), (6, .var [.gs 100 2 0 (fldF [])]), (100, .row 71 2 0), (60, .var (jQ y))]
abbrev cell57e (y : J) (o : List Fld) : Ow := [(2, .var [.nilS]), (3, .var [.b false]), (6, .var [.gs 100 2 o.length (fldF o)]), (100, .row 71 2 o.length), (60, .var (jQ y))]
abbrev fr57 : Fr := [(2, .pv 2 0), (3, .pv 3 0), (6, .pv 6 0), (20, .fn 90 [.pv 60 0])]

set_option maxRecDepth 100000 in
set_option maxHeartbeats 8000000 in
theorem fields_ctr (x : J) (hw : jw x ≤ 4194304) (hk : (getJ x fieldsW).1.kind = 5 → (getJ x fieldsW).1.keys.length = (getJ x fieldsW).1.list.length) : Ctr Tryd.prog 57 [.ag (jP x)] (fieldsD (fieldsV x)) := by
  have c1 := (get_jctr x fieldsW hw).weakS (getD_Q _)
  have hw2 := getJ_w x fieldsW
  unfold fieldsV
  generalize getJ x fieldsW = r at *
  unfold fieldsW at c1
  obtain ⟨y, ok⟩ := r
  dsimp only at c1 hk hw2 ⊢
  have hl := jwL_len y.list
  have hy := jw_eq y
  refine r_funM Tryd.func57 rfl Tryd.ntmps57 rfl fun X hL hX hdf hr0 => ?_
  cases ok with
  | false =>
    rw [if_neg (by decide)]
    repeat' (first |refine td_seq2 (x := .region _ _ _) ?_|refine td_seq2 (x := .seq (.region _ _ _) (.cond _ _ _)) ?_|refine r_call (f := 13) rfl rfl Tryd.call13 rfl c1 ?_|with_reducible (first |refine t_seq ?_|refine t_region ?_|refine c_nil ?_|refine n_then ?_|refine t_ret ?_|refine t_skip ?_|refine t_exit ?_|refine t_block ?_|refine n_block ?_|refine e_then ?_|refine x_then ?_|refine x_block ?_|refine t_draw ?_)|refine r_val rfl rfl True.intro ?_|refine r_gskip rfl rfl rfl ?_|refine r_gskip2 rfl rfl rfl ?_|refine r_gval rfl rfl rfl rfl True.intro ?_|refine t_true rfl ?_|refine t_false rfl ?_|((first |refine t_cond_d rfl ?_ ?_|refine t_cond_i rfl ?_ ?_|refine t_cond_j rfl ?_ ?_|refine t_cond_s rfl ?_ ?_|refine t_cond_n rfl ?_ ?_|refine t_cond rfl ?_ ?_|refine c_split_d rfl rfl ?_ ?_|refine c_split_i rfl rfl ?_ ?_|refine c_split_j rfl rfl ?_ ?_|refine c_split_s rfl rfl ?_ ?_|refine c_split_n rfl rfl ?_ ?_)<;>intro<;>try (first |(rename_i hz;first |exact tf_ hz|exact ft_ hz)|(exfalso;omega)))|((first |refine r_val rfl rfl ?_ ?_|refine r_gval rfl rfl rfl rfl ?_ ?_|refine r_obj rfl rfl ?_ ?_|refine r_sto rfl ?_ ?_|refine r_gobj rfl rfl rfl rfl ?_ ?_);focus (first |omega|exact le_ rfl|((repeat first |rw [wrap_u8]|rw [IntKind.wrap_i64]|rw [IntKind.wrap_i32]|rw [wrap_u32']|rw [wrap_u64']);(repeat' refine And.intro ?_ ?_)<;>omega)|((repeat' refine And.intro ?_ ?_)<;>first |omega|rfl|exact Nat.le_refl _|exact le_ rfl|exact bytesF_one _)|(simp_all;done)|(simp_all;omega)))|refine e_hit rfl ?_|refine e_miss rfl ?_|with_reducible refine ⟨by kernel_rfl, ?_⟩|refine x_raw ⟨?_⟩|((with_reducible refine c_grd ?_);(fail_if_success (refine c_lit true rfl rfl rfl ?_));(fail_if_success (refine c_lit false rfl rfl rfl ?_));refine c_split rfl rfl (fun _ => ?_) (fun _ => ?_)))
    all_goals exact fun a w hr => leave_nowM hdf hr Tryd.results57 rfl (nil_fields true) rfl
  | true =>
    rw [if_pos rfl]
    by_cases h5 : y.kind = 5
    rotate_left
    · rw [if_neg (fun q => h5 q.1)]
      repeat' (first |refine td_seq2 (x := .region _ _ _) ?_|refine td_seq2 (x := .seq (.region _ _ _) (.cond _ _ _)) ?_|refine r_call (f := 13) rfl rfl Tryd.call13 rfl c1 ?_|with_reducible (first |refine t_seq ?_|refine t_region ?_|refine c_nil ?_|refine n_then ?_|refine t_ret ?_|refine t_skip ?_|refine t_exit ?_|refine t_block ?_|refine n_block ?_|refine e_then ?_|refine x_then ?_|refine x_block ?_|refine t_draw ?_)|refine r_val rfl rfl True.intro ?_|refine r_gskip rfl rfl rfl ?_|refine r_gskip2 rfl rfl rfl ?_|refine r_gval rfl rfl rfl rfl True.intro ?_|refine t_true rfl ?_|refine t_false rfl ?_|((first |refine t_cond_d rfl ?_ ?_|refine t_cond_i rfl ?_ ?_|refine t_cond_j rfl ?_ ?_|refine t_cond_s rfl ?_ ?_|refine t_cond_n rfl ?_ ?_|refine t_cond rfl ?_ ?_|refine c_split_d rfl rfl ?_ ?_|refine c_split_i rfl rfl ?_ ?_|refine c_split_j rfl rfl ?_ ?_|refine c_split_s rfl rfl ?_ ?_|refine c_split_n rfl rfl ?_ ?_)<;>intro<;>try (first |(rename_i hz;first |exact tf_ hz|exact ft_ hz)|(exfalso;omega)))|((first |refine r_val rfl rfl ?_ ?_|refine r_gval rfl rfl rfl rfl ?_ ?_|refine r_obj rfl rfl ?_ ?_|refine r_sto rfl ?_ ?_|refine r_gobj rfl rfl rfl rfl ?_ ?_);focus (first |omega|exact le_ rfl|((repeat first |rw [wrap_u8]|rw [IntKind.wrap_i64]|rw [IntKind.wrap_i32]|rw [wrap_u32']|rw [wrap_u64']);(repeat' refine And.intro ?_ ?_)<;>omega)|((repeat' refine And.intro ?_ ?_)<;>first |omega|rfl|exact Nat.le_refl _|exact le_ rfl|exact bytesF_one _)|(simp_all;done)|(simp_all;omega)))|refine e_hit rfl ?_|refine e_miss rfl ?_|with_reducible refine ⟨by kernel_rfl, ?_⟩|refine x_raw ⟨?_⟩|((with_reducible refine c_grd ?_);(fail_if_success (refine c_lit true rfl rfl rfl ?_));(fail_if_success (refine c_lit false rfl rfl rfl ?_));refine c_split rfl rfl (fun _ => ?_) (fun _ => ?_)))
      all_goals exact fun a w hr => leave_nowM hdf hr Tryd.results57 rfl (nil_fields false) rfl
    · have hk := hk h5
      have p1 := parts_ctr y
      repeat' (first |refine td_seq2 (x := .region _ _ _) ?_|refine td_seq2 (x := .seq (.region _ _ _) (.cond _ _ _)) ?_|refine TD.seqR ?_|refine TD.blockR ?_|refine r_call (f := 13) rfl rfl Tryd.call13 rfl c1 ?_|refine r_lendN (f := 72) [] [(60, .var (jQ y))] [] [60] rfl rfl (by decide) (fun _ h => by cases h) (fun k h _ => by rw [List.mem_singleton.1 h];rfl) rfl rfl Tryd.call72 trivial rfl rfl rfl rfl p1 ?_|with_reducible (first |refine t_seq ?_|refine t_region ?_|refine c_nil ?_|refine n_then ?_|refine t_ret ?_|refine t_skip ?_|refine t_exit ?_|refine t_block ?_|refine n_block ?_|refine e_then ?_|refine x_then ?_|refine x_block ?_|refine t_draw ?_)|refine r_val rfl rfl True.intro ?_|refine r_gskip rfl rfl rfl ?_|refine r_gskip2 rfl rfl rfl ?_|refine r_gval rfl rfl rfl rfl True.intro ?_|refine t_true rfl ?_|refine t_false rfl ?_|((first |refine t_cond_d rfl ?_ ?_|refine t_cond_i rfl ?_ ?_|refine t_cond_j rfl ?_ ?_|refine t_cond_s rfl ?_ ?_|refine t_cond_n rfl ?_ ?_|refine t_cond rfl ?_ ?_|refine c_split_d rfl rfl ?_ ?_|refine c_split_i rfl rfl ?_ ?_|refine c_split_j rfl rfl ?_ ?_|refine c_split_s rfl rfl ?_ ?_|refine c_split_n rfl rfl ?_ ?_)<;>intro<;>try (first |(rename_i hz;first |exact tf_ hz|exact ft_ hz)|(exfalso;omega)))|((first |refine r_val rfl rfl ?_ ?_|refine r_gval rfl rfl rfl rfl ?_ ?_|refine r_obj rfl rfl ?_ ?_|refine r_sto rfl ?_ ?_|refine r_gobj rfl rfl rfl rfl ?_ ?_);focus (first |omega|exact le_ rfl|((repeat first |rw [wrap_u8]|rw [IntKind.wrap_i64]|rw [IntKind.wrap_i32]|rw [wrap_u32']|rw [wrap_u64']);(repeat' refine And.intro ?_ ?_)<;>omega)|((repeat' refine And.intro ?_ ?_)<;>first |omega|rfl|exact Nat.le_refl _|exact le_ rfl|exact bytesF_one _)|(simp_all;done)|(simp_all;omega)))|refine e_hit rfl ?_|refine e_miss rfl ?_|with_reducible refine ⟨by kernel_rfl, ?_⟩|refine x_raw ⟨?_⟩|((with_reducible refine c_grd ?_);(fail_if_success (refine c_lit true rfl rfl rfl ?_));(fail_if_success (refine c_lit false rfl rfl rfl ?_));refine c_split rfl rfl (fun _ => ?_) (fun _ => ?_)))
      refine TD.adoptV 6 0 100 71 2 _ (fldF []) rfl rfl rfl ?_
      have hround : ∀ (o : List Fld) (k t : Txt) (e : J), e.kind = 3 → e.text = t → True := fun _ _ _ _ _ _ => trivial
      by_cases ha : allTx y.list
      · rw [if_pos ⟨h5, ha⟩]
        refine TD.rangeFunc hL hdf fr57 (cell57 y) (cell57e y (preF y.keys y.list y.list.length)) [2, 3, 6, 100, 60]
          ⟨⟨rfl, rfl, rfl, rfl, trivial⟩, ⟨rfl, rfl, rfl, rfl, rfl, trivial⟩, rfl, fun q hq => by rw [hX] at hq; cases hq⟩ rfl rfl 50 51 (by decide) (g := 90) (caps := [.pv 60 0]) rfl Tryd.call90 rfl rfl rfl rfl none ?_ ?_
        · intro fn tmps D l htm
          refine iter_all y hk (by omega) (Hl.stab (by decide) rfl) _ fun i hi => ?_
          refine YC.of_T2 (kR := 50) (N := 34) none [21, 22] rfl rfl rfl rfl rfl (by decide) htm rfl rfl rfl rfl fun X hL hX hdf => ?_
          rw [preF_succ]
          have e1 := catF_fld (preF y.keys y.list i) (y.keys.getD i [], (y.list.getD i j0).text) (chunk 2 [.s (y.keys.getD i []), .s (y.list.getD i j0).text]) rfl
          have e2 : (preF y.keys y.list i ++ [(y.keys.getD i [], (y.list.getD i j0).text)]).length = (preF y.keys y.list i).length + 1 := by simp
          have hpl := preF_len y.keys y.list i
          have h3 := ha i hi
          generalize preF y.keys y.list i = o at *
          generalize y.keys.getD i [] = kk at *
          generalize y.list.getD i j0 = ee at *
          dsimp only [recOf, setFr]
          repeat' (first |refine And.intro (a := look _ _ = _) rfl ?_|with_reducible (first |refine t_seq ?_|refine t_region ?_|refine c_nil ?_|refine n_then ?_|refine t_ret ?_|refine t_skip ?_|refine t_exit ?_|refine t_block ?_|refine n_block ?_|refine e_then ?_|refine x_then ?_|refine x_block ?_|refine t_draw ?_)|refine r_val rfl rfl True.intro ?_|refine r_gskip rfl rfl rfl ?_|refine r_gskip2 rfl rfl rfl ?_|refine r_gval rfl rfl rfl rfl True.intro ?_|refine t_true rfl ?_|refine t_false rfl ?_|((first |refine t_cond_d rfl ?_ ?_|refine t_cond_i rfl ?_ ?_|refine t_cond_j rfl ?_ ?_|refine t_cond_s rfl ?_ ?_|refine t_cond_n rfl ?_ ?_|refine t_cond rfl ?_ ?_|refine c_split_d rfl rfl ?_ ?_|refine c_split_i rfl rfl ?_ ?_|refine c_split_j rfl rfl ?_ ?_|refine c_split_s rfl rfl ?_ ?_|refine c_split_n rfl rfl ?_ ?_)<;>intro<;>try (first |(rename_i hz;first |exact tf_ hz|exact ft_ hz)|(exfalso;omega)))|((first |refine r_val rfl rfl ?_ ?_|refine r_gval rfl rfl rfl rfl ?_ ?_|refine r_obj rfl rfl ?_ ?_|refine r_sto rfl ?_ ?_|refine r_gobj rfl rfl rfl rfl ?_ ?_);focus (first |omega|exact le_ rfl|((repeat first |rw [wrap_u8]|rw [IntKind.wrap_i64]|rw [IntKind.wrap_i32]|rw [wrap_u32']|rw [wrap_u64']);(repeat' refine And.intro ?_ ?_)<;>omega)|((repeat' refine And.intro ?_ ?_)<;>first |omega|rfl|exact Nat.le_refl _|exact le_ rfl|exact bytesF_one _)|(simp_all;done)|(simp_all;omega)))|refine e_hit rfl ?_|refine e_miss rfl ?_|with_reducible refine ⟨by kernel_rfl, ?_⟩|refine n_endY rfl ⟨rfl, rfl, rfl, rfl, ?_, ?_, rfl, trivial⟩|((with_reducible refine c_grd ?_);(fail_if_success (refine c_lit true rfl rfl rfl ?_));(fail_if_success (refine c_lit false rfl rfl rfl ?_));refine c_split rfl rfl (fun _ => ?_) (fun _ => ?_)))
          all_goals first | (rw [e2, ← e1]; rfl) | (rw [e2]; rfl)
        · intro X1 D rec rec2 hm
          refine after_none ?_
          repeat' (first |refine td_seq2 (x := .region _ _ _) ?_|refine td_last ?_|with_reducible (first |refine t_seq ?_|refine t_region ?_|refine c_nil ?_|refine n_then ?_|refine t_ret ?_|refine t_skip ?_|refine t_exit ?_|refine t_block ?_|refine n_block ?_|refine e_then ?_|refine x_then ?_|refine x_block ?_|refine t_draw ?_)|refine r_val rfl rfl True.intro ?_|refine r_gskip rfl rfl rfl ?_|refine r_gskip2 rfl rfl rfl ?_|refine r_gval rfl rfl rfl rfl True.intro ?_|refine t_true rfl ?_|refine t_false rfl ?_|((first |refine t_cond_d rfl ?_ ?_|refine t_cond_i rfl ?_ ?_|refine t_cond_j rfl ?_ ?_|refine t_cond_s rfl ?_ ?_|refine t_cond_n rfl ?_ ?_|refine t_cond rfl ?_ ?_|refine c_split_d rfl rfl ?_ ?_|refine c_split_i rfl rfl ?_ ?_|refine c_split_j rfl rfl ?_ ?_|refine c_split_s rfl rfl ?_ ?_|refine c_split_n rfl rfl ?_ ?_)<;>intro<;>try (first |(rename_i hz;first |exact tf_ hz|exact ft_ hz)|(exfalso;omega)))|((first |refine r_val rfl rfl ?_ ?_|refine r_gval rfl rfl rfl rfl ?_ ?_|refine r_obj rfl rfl ?_ ?_|refine r_sto rfl ?_ ?_|refine r_gobj rfl rfl rfl rfl ?_ ?_);focus (first |omega|exact le_ rfl|((repeat first |rw [wrap_u8]|rw [IntKind.wrap_i64]|rw [IntKind.wrap_i32]|rw [wrap_u32']|rw [wrap_u64']);(repeat' refine And.intro ?_ ?_)<;>omega)|((repeat' refine And.intro ?_ ?_)<;>first |omega|rfl|exact Nat.le_refl _|exact le_ rfl|exact bytesF_one _)|(simp_all;done)|(simp_all;omega)))|refine e_hit rfl ?_|refine e_miss rfl ?_|with_reducible refine ⟨by kernel_rfl, ?_⟩|refine x_raw ⟨?_⟩|((with_reducible refine c_grd ?_);(fail_if_success (refine c_lit true rfl rfl rfl ?_));(fail_if_success (refine c_lit false rfl rfl rfl ?_));refine c_split rfl rfl (fun _ => ?_) (fun _ => ?_)))
          all_goals exact fun a w hr => leave_mark hm hr rfl Tryd.results57 rfl (.refl _) rfl
      · rw [if_neg (fun q => ha q.2)]
        obtain ⟨m, hm, hb, hg⟩ := first_bad ha
        refine TD.rangeFunc hL hdf fr57 (cell57 y) (cell57e y (preF y.keys y.list m)) [2, 3, 6, 100, 60]
          ⟨⟨rfl, rfl, rfl, rfl, trivial⟩, ⟨rfl, rfl, rfl, rfl, rfl, trivial⟩, rfl, fun q hq => by rw [hX] at hq; cases hq⟩ rfl rfl 50 51 (by decide) (g := 90) (caps := [.pv 60 0]) rfl Tryd.call90 rfl rfl rfl rfl (some .ret) ?_ ?_
        · intro fn tmps D l htm
          refine iter_stop y hk (by omega) (Hl.stab (by decide) rfl) _ _ m hm (fun i hi => ?_) ?_
          · refine YC.of_T2 (kR := 50) (N := 34) none [21, 22] rfl rfl rfl rfl rfl (by decide) htm rfl rfl rfl rfl fun X hL hX hdf => ?_
            rw [preF_succ]
            have e1 := catF_fld (preF y.keys y.list i) (y.keys.getD i [], (y.list.getD i j0).text) (chunk 2 [.s (y.keys.getD i []), .s (y.list.getD i j0).text]) rfl
            have e2 : (preF y.keys y.list i ++ [(y.keys.getD i [], (y.list.getD i j0).text)]).length = (preF y.keys y.list i).length + 1 := by simp
            have hpl := preF_len y.keys y.list i
            have h3 := hg i hi
            generalize preF y.keys y.list i = o at *
            generalize y.keys.getD i [] = kk at *
            generalize y.list.getD i j0 = ee at *
            dsimp only [recOf, setFr]
            repeat' (first |refine And.intro (a := look _ _ = _) rfl ?_|with_reducible (first |refine t_seq ?_|refine t_region ?_|refine c_nil ?_|refine n_then ?_|refine t_ret ?_|refine t_skip ?_|refine t_exit ?_|refine t_block ?_|refine n_block ?_|refine e_then ?_|refine x_then ?_|refine x_block ?_|refine t_draw ?_)|refine r_val rfl rfl True.intro ?_|refine r_gskip rfl rfl rfl ?_|refine r_gskip2 rfl rfl rfl ?_|refine r_gval rfl rfl rfl rfl True.intro ?_|refine t_true rfl ?_|refine t_false rfl ?_|((first |refine t_cond_d rfl ?_ ?_|refine t_cond_i rfl ?_ ?_|refine t_cond_j rfl ?_ ?_|refine t_cond_s rfl ?_ ?_|refine t_cond_n rfl ?_ ?_|refine t_cond rfl ?_ ?_|refine c_split_d rfl rfl ?_ ?_|refine c_split_i rfl rfl ?_ ?_|refine c_split_j rfl rfl ?_ ?_|refine c_split_s rfl rfl ?_ ?_|refine c_split_n rfl rfl ?_ ?_)<;>intro<;>try (first |(rename_i hz;first |exact tf_ hz|exact ft_ hz)|(exfalso;omega)))|((first |refine r_val rfl rfl ?_ ?_|refine r_gval rfl rfl rfl rfl ?_ ?_|refine r_obj rfl rfl ?_ ?_|refine r_sto rfl ?_ ?_|refine r_gobj rfl rfl rfl rfl ?_ ?_);focus (first |omega|exact le_ rfl|((repeat first |rw [wrap_u8]|rw [IntKind.wrap_i64]|rw [IntKind.wrap_i32]|rw [wrap_u32']|rw [wrap_u64']);(repeat' refine And.intro ?_ ?_)<;>omega)|((repeat' refine And.intro ?_ ?_)<;>first |omega|rfl|exact Nat.le_refl _|exact le_ rfl|exact bytesF_one _)|(simp_all;done)|(simp_all;omega)))|refine e_hit rfl ?_|refine e_miss rfl ?_|with_reducible refine ⟨by kernel_rfl, ?_⟩|refine n_endY rfl ⟨rfl, rfl, rfl, rfl, ?_, ?_, rfl, trivial⟩|((with_reducible refine c_grd ?_);(fail_if_success (refine c_lit true rfl rfl rfl ?_));(fail_if_success (refine c_lit false rfl rfl rfl ?_));refine c_split rfl rfl (fun _ => ?_) (fun _ => ?_)))
            all_goals first | (rw [e2, ← e1]; rfl) | (rw [e2]; rfl)
          · refine YC.of_T2 (kR := 50) (N := 34) (some .ret) [21, 22] rfl rfl rfl rfl rfl (by decide) htm rfl rfl rfl rfl fun X hL hX hdf => ?_
            have hpl := preF_len y.keys y.list m
            generalize preF y.keys y.list m = o at *
            generalize y.keys.getD m [] = kk at *
            generalize y.list.getD m j0 = ee at *
            dsimp only [recOf, setFr]
            repeat' (first |refine And.intro (a := look _ _ = _) rfl ?_|with_reducible (first |refine t_seq ?_|refine t_region ?_|refine c_nil ?_|refine n_then ?_|refine t_ret ?_|refine t_skip ?_|refine t_exit ?_|refine t_block ?_|refine n_block ?_|refine e_then ?_|refine x_then ?_|refine x_block ?_|refine t_draw ?_)|refine r_val rfl rfl True.intro ?_|refine r_gskip rfl rfl rfl ?_|refine r_gskip2 rfl rfl rfl ?_|refine r_gval rfl rfl rfl rfl True.intro ?_|refine t_true rfl ?_|refine t_false rfl ?_|((first |refine t_cond_d rfl ?_ ?_|refine t_cond_i rfl ?_ ?_|refine t_cond_j rfl ?_ ?_|refine t_cond_s rfl ?_ ?_|refine t_cond_n rfl ?_ ?_|refine t_cond rfl ?_ ?_|refine c_split_d rfl rfl ?_ ?_|refine c_split_i rfl rfl ?_ ?_|refine c_split_j rfl rfl ?_ ?_|refine c_split_s rfl rfl ?_ ?_|refine c_split_n rfl rfl ?_ ?_)<;>intro<;>try (first |(rename_i hz;first |exact tf_ hz|exact ft_ hz)|(exfalso;omega)))|((first |refine r_val rfl rfl ?_ ?_|refine r_gval rfl rfl rfl rfl ?_ ?_|refine r_obj rfl rfl ?_ ?_|refine r_sto rfl ?_ ?_|refine r_gobj rfl rfl rfl rfl ?_ ?_);focus (first |omega|exact le_ rfl|((repeat first |rw [wrap_u8]|rw [IntKind.wrap_i64]|rw [IntKind.wrap_i32]|rw [wrap_u32']|rw [wrap_u64']);(repeat' refine And.intro ?_ ?_)<;>omega)|((repeat' refine And.intro ?_ ?_)<;>first |omega|rfl|exact Nat.le_refl _|exact le_ rfl|exact bytesF_one _)|(simp_all;done)|(simp_all;omega)))|refine e_hit rfl ?_|refine e_miss rfl ?_|with_reducible refine ⟨by kernel_rfl, ?_⟩|refine x_endY rfl ⟨rfl, rfl, rfl, rfl, rfl, rfl, rfl, trivial⟩|((with_reducible refine c_grd ?_);(fail_if_success (refine c_lit true rfl rfl rfl ?_));(fail_if_success (refine c_lit false rfl rfl rfl ?_));refine c_split rfl rfl (fun _ => ?_) (fun _ => ?_)))
        · intro X1 D rec rec2 hm
          refine after_ret ?_
          exact fun a w hr => leave_mark hm hr rfl Tryd.results57 rfl (nil_fields false) rfl

theorem getJ_no {x : J} {k : List UInt8} (h : (getJ x k).2 = false) : (getJ x k).1 = j0 := by
  unfold getJ at h ⊢
  split at h
  · cases h
  · rename_i q
    rw [if_neg q]

theorem catF_vec (l : List Vec) (x : Vec) (gf : Nat → List D) (hg : gf 0 = [.s x.1, .sl 2 x.2.length (fldF x.2)]) : catF l.length (vecF l) 1 gf = vecF (l ++ [x]) := by
  funext j
  unfold catF vecF
  by_cases h : j < l.length
  · rw [if_pos h]
    simp [List.getD_eq_getElem?_getD, List.getElem?_append_left h]
  · rw [if_neg h]
    by_cases h2 : j < l.length + 1
    · obtain rfl : j = l.length := by omega
      rw [if_pos h2, Nat.sub_self, hg]
      simp [List.getD_eq_getElem?_getD]
    · rw [if_neg h2]
      simp [List.getD_eq_getElem?_getD, List.getElem?_append_right (show l.length ≤ j by omega)]
      rw [List.getElem?_eq_none (show l.length ≤ j by omega), List.getElem?_eq_none (show [x].length ≤ j - l.length by simp; omega)]
      exact ⟨rfl, rfl, rfl⟩

def idW : Txt := [105, 100]
def putId (id : Txt) (ix : Int) : Option (List Fld) → Option Vec
  | some f => if 0 ≤ ix then none else some (id, f)
  | none => none
def layerV (y : J) (out : List Vec) : Option Vec :=
  if (getJ y idW).1.kind = 3 then putId (getJ y idW).1.text (idxI (getJ y idW).1.text (out.map (·.1))) (fieldsV y) else none
def laysV : List J → List Vec → Option (List Vec)
  | [], out => some out
  | y :: r, out => match layerV y out with
    | some v => laysV r (out ++ [v])
    | none => none
theorem drop_at1 {l : List J} {i : Nat} (h : i < l.length) : l.drop i = l.getD i j0 :: l.drop (i + 1) := by
  rw [List.drop_eq_getElem_cons h]
  simp [List.getD_eq_getElem?_getD, h]
theorem laysV_more {l : List J} {i : Nat} {out : List Vec} {v : Vec} (h : i < l.length) (hv : layerV (l.getD i j0) out = some v) : laysV (l.drop i) out = laysV (l.drop (i + 1)) (out ++ [v]) := by
  rw [drop_at1 h, laysV, hv]
theorem laysV_stop {l : List J} {i : Nat} {out : List Vec} (h : i < l.length) (hv : layerV (l.getD i j0) out = none) : laysV (l.drop i) out = none := by
  rw [drop_at1 h, laysV, hv]
theorem laysV_end {l : List J} {i : Nat} {out : List Vec} (h : ¬ i < l.length) : laysV (l.drop i) out = some out := by
  rw [List.drop_eq_nil_of_le (by omega), laysV]
def layersV (x : J) : Option (List Vec) := if x.kind = 4 then laysV x.list [] else none
def layersD : Option (List Vec) → D
  | some l => .tu [.sl 2 l.length (vecF l), .b true]
  | none => .tu [.sl 2 0 (vecF []), .b false]
theorem layersD_free (r : Option (List Vec)) : (layersD r).free = true := by cases r <;> rfl
theorem nil_layers : Weak (.tu [.nilS, .b false]) (layersD none) := .tu2 (.nil 2 _) (.refl _)
def layerD : Option Vec → D
  | some v => .tu [.ag [.s v.1, .sl 2 v.2.length (fldF v.2)], .b true]
  | none => .tu [.ag [.s [], .sl 2 0 (fldF [])], .b false]
theorem layerD_free (r : Option Vec) : (layerD r).free = true := by cases r <;> rfl
theorem nil_layer : Weak (.tu [.ag [.s [], .nilS], .b false]) (layerD none) := .tu2 (.ag _ _ rfl fun j hj => match j, hj with
  | 0, _ => .refl _
  | 1, _ => .nil 2 _) (.refl _)

set_option maxRecDepth 100000 in
set_option maxHeartbeats 8000000 in
theorem layers_ctr {B : Nat} (x : J) (hw : jw x ≤ 4194304) (hk : okJ B x) : Ctr Tryd.prog 37 [.ag (jP x)] (layersD (layersV x)) := by
  refine Ctr.weak1 ?_ (jP_Q x)
  have hx := jw_eq x
  have hl := jwL_len x.list
  refine r_fun Tryd.func37 rfl Tryd.ntmps37 Tryd.results37 rfl (layersD_free _) fun X hL hX => ?_
  unfold layersV
  by_cases h4 : x.kind = 4
  rotate_left
  · rw [if_neg h4]
    repeat' (first |with_reducible (first |refine t_seq ?_|refine t_region ?_|refine c_nil ?_|refine n_then ?_|refine t_ret ?_|refine t_skip ?_|refine t_exit ?_|refine t_block ?_|refine n_block ?_|refine e_then ?_|refine x_then ?_|refine x_block ?_|refine t_draw ?_)|refine r_val rfl rfl True.intro ?_|refine r_gskip rfl rfl rfl ?_|refine r_gskip2 rfl rfl rfl ?_|refine r_gval rfl rfl rfl rfl True.intro ?_|refine t_true rfl ?_|refine t_false rfl ?_|((first |refine t_cond_d rfl ?_ ?_|refine t_cond_i rfl ?_ ?_|refine t_cond_j rfl ?_ ?_|refine t_cond_s rfl ?_ ?_|refine t_cond_n rfl ?_ ?_|refine t_cond rfl ?_ ?_|refine c_split_d rfl rfl ?_ ?_|refine c_split_i rfl rfl ?_ ?_|refine c_split_j rfl rfl ?_ ?_|refine c_split_s rfl rfl ?_ ?_|refine c_split_n rfl rfl ?_ ?_)<;>intro<;>try (first |(rename_i hz;first |exact tf_ hz|exact ft_ hz)|(exfalso;omega)))|((first |refine r_val rfl rfl ?_ ?_|refine r_gval rfl rfl rfl rfl ?_ ?_|refine r_obj rfl rfl ?_ ?_|refine r_sto rfl ?_ ?_|refine r_gobj rfl rfl rfl rfl ?_ ?_);focus (first |omega|exact le_ rfl|((repeat first |rw [wrap_u8]|rw [IntKind.wrap_i64]|rw [IntKind.wrap_i32]|rw [wrap_u32']|rw [wrap_u64']);(repeat' refine And.intro ?_ ?_)<;>omega)|((repeat' refine And.intro ?_ ?_)<;>first |omega|rfl|exact Nat.le_refl _|exact le_ rfl|exact bytesF_one _)|(simp_all;done)|(simp_all;omega)))|refine e_hit rfl ?_|refine e_miss rfl ?_|with_reducible refine ⟨by kernel_rfl, ?_⟩|refine x_endw rfl ?_|((with_reducible refine c_grd ?_);(fail_if_success (refine c_lit true rfl rfl rfl ?_));(fail_if_success (refine c_lit false rfl rfl rfl ?_));refine c_split rfl rfl (fun _ => ?_) (fun _ => ?_)))
    all_goals exact nil_layers
  rw [if_pos h4]
  repeat' (first |with_reducible (first |refine t_seq ?_|refine t_region ?_|refine c_nil ?_|refine n_then ?_|refine t_ret ?_|refine t_skip ?_|refine t_exit ?_|refine t_block ?_|refine n_block ?_|refine e_then ?_|refine x_then ?_|refine x_block ?_|refine t_draw ?_)|refine r_val rfl rfl True.intro ?_|refine r_gskip rfl rfl rfl ?_|refine r_gskip2 rfl rfl rfl ?_|refine r_gval rfl rfl rfl rfl True.intro ?_|refine t_true rfl ?_|refine t_false rfl ?_|((first |refine t_cond_d rfl ?_ ?_|refine t_cond_i rfl ?_ ?_|refine t_cond_j rfl ?_ ?_|refine t_cond_s rfl ?_ ?_|refine t_cond_n rfl ?_ ?_|refine t_cond rfl ?_ ?_|refine c_split_d rfl rfl ?_ ?_|refine c_split_i rfl rfl ?_ ?_|refine c_split_j rfl rfl ?_ ?_|refine c_split_s rfl rfl ?_ ?_|refine c_split_n rfl rfl ?_ ?_)<;>intro<;>try (first |(rename_i hz;first |exact tf_ hz|exact ft_ hz)|(exfalso;omega)))|((first |refine r_val rfl rfl ?_ ?_|refine r_gval rfl rfl rfl rfl ?_ ?_|refine r_obj rfl rfl ?_ ?_|refine r_sto rfl ?_ ?_|refine r_gobj rfl rfl rfl rfl ?_ ?_);focus (first |omega|exact le_ rfl|((repeat first |rw [wrap_u8]|rw [IntKind.wrap_i64]|rw [IntKind.wrap_i32]|rw [wrap_u32']|rw [wrap_u64']);(repeat' refine And.intro ?_ ?_)<;>omega)|((repeat' refine And.intro ?_ ?_)<;>first |omega|rfl|exact Nat.le_refl _|exact le_ rfl|exact bytesF_one _)|(simp_all;done)|(simp_all;omega)))|refine e_hit rfl ?_|refine e_miss rfl ?_|with_reducible refine ⟨by kernel_rfl, ?_⟩|refine x_endw rfl ?_|((with_reducible refine c_grd ?_);(fail_if_success (refine c_lit true rfl rfl rfl ?_));(fail_if_success (refine c_lit false rfl rfl rfl ?_));refine c_split rfl rfl (fun _ => ?_) (fun _ => ?_)))
  refine T.adopt 4 100 75 2 (vecF []) rfl rfl ?_
  refine T.loop hL (fun s : Nat × List Vec => [(4, .gs 100 2 s.2.length (vecF s.2)), (15, .sl 8 x.list.length (jG x.list)), (16, .i .i64 x.list.length), (17, .i .i64 s.1)]) (fun s => [(100, .row 75 2 s.2.length)])
    (fun s => s.1 ≤ x.list.length ∧ s.2.length = s.1 ∧ laysV x.list [] = laysV (x.list.drop s.1) s.2) (fun s => x.list.length - s.1) (0, []) ⟨Nat.zero_le _, rfl, rfl⟩
    ⟨⟨rfl, rfl, rfl, rfl, trivial⟩, ⟨rfl, trivial⟩, rfl, fun q hq => by rw [hX] at hq; cases hq⟩ ?_
  rintro ⟨i, out⟩ ⟨hi, hol, hI⟩
  dsimp only at hi hol hI ⊢
  rw [hI]
  clear hI
  by_cases hlt : i < x.list.length
  rotate_left
  · rw [laysV_end hlt]
    repeat' (first |with_reducible (first |refine t_seq ?_|refine t_region ?_|refine c_nil ?_|refine n_then ?_|refine t_ret ?_|refine t_skip ?_|refine t_exit ?_|refine t_block ?_|refine n_block ?_|refine e_then ?_|refine x_then ?_|refine x_block ?_|refine t_draw ?_)|refine r_val rfl rfl True.intro ?_|refine r_gskip rfl rfl rfl ?_|refine r_gskip2 rfl rfl rfl ?_|refine r_gval rfl rfl rfl rfl True.intro ?_|refine t_true rfl ?_|refine t_false rfl ?_|((first |refine t_cond_d rfl ?_ ?_|refine t_cond_i rfl ?_ ?_|refine t_cond_j rfl ?_ ?_|refine t_cond_s rfl ?_ ?_|refine t_cond_n rfl ?_ ?_|refine t_cond rfl ?_ ?_|refine c_split_d rfl rfl ?_ ?_|refine c_split_i rfl rfl ?_ ?_|refine c_split_j rfl rfl ?_ ?_|refine c_split_s rfl rfl ?_ ?_|refine c_split_n rfl rfl ?_ ?_)<;>intro<;>try (first |(rename_i hz;first |exact tf_ hz|exact ft_ hz)|(exfalso;omega)))|((first |refine r_val rfl rfl ?_ ?_|refine r_gval rfl rfl rfl rfl ?_ ?_|refine r_obj rfl rfl ?_ ?_|refine r_sto rfl ?_ ?_|refine r_gobj rfl rfl rfl rfl ?_ ?_);focus (first |omega|exact le_ rfl|((repeat first |rw [wrap_u8]|rw [IntKind.wrap_i64]|rw [IntKind.wrap_i32]|rw [wrap_u32']|rw [wrap_u64']);(repeat' refine And.intro ?_ ?_)<;>omega)|((repeat' refine And.intro ?_ ?_)<;>first |omega|rfl|exact Nat.le_refl _|exact le_ rfl|exact bytesF_one _)|(simp_all;done)|(simp_all;omega)))|refine e_hit rfl ?_|refine e_miss rfl ?_|with_reducible refine ⟨by kernel_rfl, ?_⟩|refine x_endw rfl ?_|((with_reducible refine c_grd ?_);(fail_if_success (refine c_lit true rfl rfl rfl ?_));(fail_if_success (refine c_lit false rfl rfl rfl ?_));refine c_split rfl rfl (fun _ => ?_) (fun _ => ?_)))
    all_goals exact .refl _
  have hmore := fun v => @laysV_more x.list i out v hlt
  have hstop := @laysV_stop x.list i out hlt
  have hwy := jwL_at hlt
  have hky := okJ_parts (okJ_get (okJ_at hk hlt) fieldsW)
  have c1 := (get_jctr (x.list.getD i j0) idW (by omega)).weakS (getD_Q _)
  have c2 := fields_ctr (x.list.getD i j0) (by omega) hky.1
  have hg : jG x.list i = jP (x.list.getD i j0) := rfl
  clear hky hwy
  generalize laysV (x.list.drop i) out = R at *
  have hv : layerV (x.list.getD i j0) out = (if (getJ (x.list.getD i j0) idW).1.kind = 3 then putId (getJ (x.list.getD i j0) idW).1.text (idxI (getJ (x.list.getD i j0) idW).1.text (out.map (·.1))) (fieldsV (x.list.getD i j0)) else none) := rfl
  have c3 := find_ctr out (getJ (x.list.getD i j0) idW).1.text (by omega)
  generalize getJ (x.list.getD i j0) idW = r at *
  unfold idW at c1
  obtain ⟨z, ok⟩ := r
  dsimp only at c1 c3 hv
  by_cases h3 : z.kind = 3
  rotate_left
  · rw [if_neg h3] at hv
    rw [hstop hv]
    clear hmore hstop hv
    generalize fieldsV (x.list.getD i j0) = q at *
    cases q with
    | none =>
      repeat' (first |refine r_call (f := 13) rfl rfl Tryd.call13 rfl c1 ?_|refine r_call (f := 57) rfl rfl Tryd.call57 rfl c2 ?_|with_reducible (first |refine t_seq ?_|refine t_region ?_|refine c_nil ?_|refine n_then ?_|refine t_ret ?_|refine t_skip ?_|refine t_exit ?_|refine t_block ?_|refine n_block ?_|refine e_then ?_|refine x_then ?_|refine x_block ?_|refine t_draw ?_)|refine r_val rfl rfl True.intro ?_|refine r_gskip rfl rfl rfl ?_|refine r_gskip2 rfl rfl rfl ?_|refine r_gval rfl rfl rfl rfl True.intro ?_|refine t_true rfl ?_|refine t_false rfl ?_|((first |refine t_cond_d rfl ?_ ?_|refine t_cond_i rfl ?_ ?_|refine t_cond_j rfl ?_ ?_|refine t_cond_s rfl ?_ ?_|refine t_cond_n rfl ?_ ?_|refine t_cond rfl ?_ ?_|refine c_split_d rfl rfl ?_ ?_|refine c_split_i rfl rfl ?_ ?_|refine c_split_j rfl rfl ?_ ?_|refine c_split_s rfl rfl ?_ ?_|refine c_split_n rfl rfl ?_ ?_)<;>intro<;>try (first |(rename_i hz;first |exact tf_ hz|exact ft_ hz)|(exfalso;omega)))|((first |refine r_val rfl rfl ?_ ?_|refine r_gval rfl rfl rfl rfl ?_ ?_|refine r_obj rfl rfl ?_ ?_|refine r_sto rfl ?_ ?_|refine r_gobj rfl rfl rfl rfl ?_ ?_);focus (first |omega|exact le_ rfl|((repeat first |rw [wrap_u8]|rw [IntKind.wrap_i64]|rw [IntKind.wrap_i32]|rw [wrap_u32']|rw [wrap_u64']);(repeat' refine And.intro ?_ ?_)<;>omega)|((repeat' refine And.intro ?_ ?_)<;>first |omega|rfl|exact Nat.le_refl _|exact le_ rfl|exact bytesF_one _)|(simp_all;done)|(simp_all;omega)))|refine e_hit rfl ?_|refine e_miss rfl ?_|with_reducible refine ⟨by kernel_rfl, ?_⟩|refine x_endw rfl ?_|((with_reducible refine c_grd ?_);(fail_if_success (refine c_lit true rfl rfl rfl ?_));(fail_if_success (refine c_lit false rfl rfl rfl ?_));refine c_split rfl rfl (fun _ => ?_) (fun _ => ?_)))
      all_goals exact nil_layers
    | some f =>
      repeat' (first |refine r_call (f := 13) rfl rfl Tryd.call13 rfl c1 ?_|refine r_call (f := 57) rfl rfl Tryd.call57 rfl c2 ?_|with_reducible (first |refine t_seq ?_|refine t_region ?_|refine c_nil ?_|refine n_then ?_|refine t_ret ?_|refine t_skip ?_|refine t_exit ?_|refine t_block ?_|refine n_block ?_|refine e_then ?_|refine x_then ?_|refine x_block ?_|refine t_draw ?_)|refine r_val rfl rfl True.intro ?_|refine r_gskip rfl rfl rfl ?_|refine r_gskip2 rfl rfl rfl ?_|refine r_gval rfl rfl rfl rfl True.intro ?_|refine t_true rfl ?_|refine t_false rfl ?_|((first |refine t_cond_d rfl ?_ ?_|refine t_cond_i rfl ?_ ?_|refine t_cond_j rfl ?_ ?_|refine t_cond_s rfl ?_ ?_|refine t_cond_n rfl ?_ ?_|refine t_cond rfl ?_ ?_|refine c_split_d rfl rfl ?_ ?_|refine c_split_i rfl rfl ?_ ?_|refine c_split_j rfl rfl ?_ ?_|refine c_split_s rfl rfl ?_ ?_|refine c_split_n rfl rfl ?_ ?_)<;>intro<;>try (first |(rename_i hz;first |exact tf_ hz|exact ft_ hz)|(exfalso;omega)))|((first |refine r_val rfl rfl ?_ ?_|refine r_gval rfl rfl rfl rfl ?_ ?_|refine r_obj rfl rfl ?_ ?_|refine r_sto rfl ?_ ?_|refine r_gobj rfl rfl rfl rfl ?_ ?_);focus (first |omega|exact le_ rfl|((repeat first |rw [wrap_u8]|rw [IntKind.wrap_i64]|rw [IntKind.wrap_i32]|rw [wrap_u32']|rw [wrap_u64']);(repeat' refine And.intro ?_ ?_)<;>omega)|((repeat' refine And.intro ?_ ?_)<;>first |omega|rfl|exact Nat.le_refl _|exact le_ rfl|exact bytesF_one _)|(simp_all;done)|(simp_all;omega)))|refine e_hit rfl ?_|refine e_miss rfl ?_|with_reducible refine ⟨by kernel_rfl, ?_⟩|refine x_endw rfl ?_|((with_reducible refine c_grd ?_);(fail_if_success (refine c_lit true rfl rfl rfl ?_));(fail_if_success (refine c_lit false rfl rfl rfl ?_));refine c_split rfl rfl (fun _ => ?_) (fun _ => ?_)))
      all_goals exact nil_layers
  rw [if_pos h3] at hv
  generalize fieldsV (x.list.getD i j0) = q at *
  cases q with
  | none =>
    rw [hstop hv]
    clear hmore hstop hv
    repeat' (first |refine r_call (f := 13) rfl rfl Tryd.call13 rfl c1 ?_|refine r_call (f := 57) rfl rfl Tryd.call57 rfl c2 ?_|with_reducible (first |refine t_seq ?_|refine t_region ?_|refine c_nil ?_|refine n_then ?_|refine t_ret ?_|refine t_skip ?_|refine t_exit ?_|refine t_block ?_|refine n_block ?_|refine e_then ?_|refine x_then ?_|refine x_block ?_|refine t_draw ?_)|refine r_val rfl rfl True.intro ?_|refine r_gskip rfl rfl rfl ?_|refine r_gskip2 rfl rfl rfl ?_|refine r_gval rfl rfl rfl rfl True.intro ?_|refine t_true rfl ?_|refine t_false rfl ?_|((first |refine t_cond_d rfl ?_ ?_|refine t_cond_i rfl ?_ ?_|refine t_cond_j rfl ?_ ?_|refine t_cond_s rfl ?_ ?_|refine t_cond_n rfl ?_ ?_|refine t_cond rfl ?_ ?_|refine c_split_d rfl rfl ?_ ?_|refine c_split_i rfl rfl ?_ ?_|refine c_split_j rfl rfl ?_ ?_|refine c_split_s rfl rfl ?_ ?_|refine c_split_n rfl rfl ?_ ?_)<;>intro<;>try (first |(rename_i hz;first |exact tf_ hz|exact ft_ hz)|(exfalso;omega)))|((first |refine r_val rfl rfl ?_ ?_|refine r_gval rfl rfl rfl rfl ?_ ?_|refine r_obj rfl rfl ?_ ?_|refine r_sto rfl ?_ ?_|refine r_gobj rfl rfl rfl rfl ?_ ?_);focus (first |omega|exact le_ rfl|((repeat first |rw [wrap_u8]|rw [IntKind.wrap_i64]|rw [IntKind.wrap_i32]|rw [wrap_u32']|rw [wrap_u64']);(repeat' refine And.intro ?_ ?_)<;>omega)|((repeat' refine And.intro ?_ ?_)<;>first |omega|rfl|exact Nat.le_refl _|exact le_ rfl|exact bytesF_one _)|(simp_all;done)|(simp_all;omega)))|refine e_hit rfl ?_|refine e_miss rfl ?_|with_reducible refine ⟨by kernel_rfl, ?_⟩|refine x_endw rfl ?_|((with_reducible refine c_grd ?_);(fail_if_success (refine c_lit true rfl rfl rfl ?_));(fail_if_success (refine c_lit false rfl rfl rfl ?_));refine c_split rfl rfl (fun _ => ?_) (fun _ => ?_)))
    all_goals exact nil_layers
  | some f =>
    simp only [putId] at hv
    have e1 := catF_vec out (z.text, f) (chunk 2 [.s z.text, .sl 2 f.length (fldF f)]) rfl
    have e2 : (out ++ [(z.text, f)]).length = out.length + 1 := by simp
    generalize idxI z.text (out.map (·.1)) = ix at *
    by_cases hx0 : 0 ≤ ix
    · rw [if_pos hx0] at hv
      rw [hstop hv]
      clear hmore hstop hv
      repeat' (first |refine r_call (f := 13) rfl rfl Tryd.call13 rfl c1 ?_|refine r_call (f := 57) rfl rfl Tryd.call57 rfl c2 ?_|refine r_gcall (f := 58) rfl rfl rfl rfl Tryd.call58 rfl c3 ?_|with_reducible (first |refine t_seq ?_|refine t_region ?_|refine c_nil ?_|refine n_then ?_|refine t_ret ?_|refine t_skip ?_|refine t_exit ?_|refine t_block ?_|refine n_block ?_|refine e_then ?_|refine x_then ?_|refine x_block ?_|refine t_draw ?_)|refine r_val rfl rfl True.intro ?_|refine r_gskip rfl rfl rfl ?_|refine r_gskip2 rfl rfl rfl ?_|refine r_gval rfl rfl rfl rfl True.intro ?_|refine t_true rfl ?_|refine t_false rfl ?_|((first |refine t_cond_d rfl ?_ ?_|refine t_cond_i rfl ?_ ?_|refine t_cond_j rfl ?_ ?_|refine t_cond_s rfl ?_ ?_|refine t_cond_n rfl ?_ ?_|refine t_cond rfl ?_ ?_|refine c_split_d rfl rfl ?_ ?_|refine c_split_i rfl rfl ?_ ?_|refine c_split_j rfl rfl ?_ ?_|refine c_split_s rfl rfl ?_ ?_|refine c_split_n rfl rfl ?_ ?_)<;>intro<;>try (first |(rename_i hz;first |exact tf_ hz|exact ft_ hz)|(exfalso;omega)))|((first |refine r_val rfl rfl ?_ ?_|refine r_gval rfl rfl rfl rfl ?_ ?_|refine r_obj rfl rfl ?_ ?_|refine r_sto rfl ?_ ?_|refine r_gobj rfl rfl rfl rfl ?_ ?_);focus (first |omega|exact le_ rfl|((repeat first |rw [wrap_u8]|rw [IntKind.wrap_i64]|rw [IntKind.wrap_i32]|rw [wrap_u32']|rw [wrap_u64']);(repeat' refine And.intro ?_ ?_)<;>omega)|((repeat' refine And.intro ?_ ?_)<;>first |omega|rfl|exact Nat.le_refl _|exact le_ rfl|exact bytesF_one _)|(simp_all;done)|(simp_all;omega)))|refine e_hit rfl ?_|refine e_miss rfl ?_|with_reducible refine ⟨by kernel_rfl, ?_⟩|refine x_endw rfl ?_|((with_reducible refine c_grd ?_);(fail_if_success (refine c_lit true rfl rfl rfl ?_));(fail_if_success (refine c_lit false rfl rfl rfl ?_));refine c_split rfl rfl (fun _ => ?_) (fun _ => ?_)))
      all_goals exact nil_layers
    · rw [if_neg hx0] at hv
      rw [hmore _ hv]
      clear hmore hstop hv
      repeat' (first |refine r_call (f := 13) rfl rfl Tryd.call13 rfl c1 ?_|refine r_call (f := 57) rfl rfl Tryd.call57 rfl c2 ?_|refine r_gcall (f := 58) rfl rfl rfl rfl Tryd.call58 rfl c3 ?_|with_reducible (first |refine t_seq ?_|refine t_region ?_|refine c_nil ?_|refine n_then ?_|refine t_ret ?_|refine t_skip ?_|refine t_exit ?_|refine t_block ?_|refine n_block ?_|refine e_then ?_|refine x_then ?_|refine x_block ?_|refine t_draw ?_)|refine r_val rfl rfl True.intro ?_|refine r_gskip rfl rfl rfl ?_|refine r_gskip2 rfl rfl rfl ?_|refine r_gval rfl rfl rfl rfl True.intro ?_|refine t_true rfl ?_|refine t_false rfl ?_|((first |refine t_cond_d rfl ?_ ?_|refine t_cond_i rfl ?_ ?_|refine t_cond_j rfl ?_ ?_|refine t_cond_s rfl ?_ ?_|refine t_cond_n rfl ?_ ?_|refine t_cond rfl ?_ ?_|refine c_split_d rfl rfl ?_ ?_|refine c_split_i rfl rfl ?_ ?_|refine c_split_j rfl rfl ?_ ?_|refine c_split_s rfl rfl ?_ ?_|refine c_split_n rfl rfl ?_ ?_)<;>intro<;>try (first |(rename_i hz;first |exact tf_ hz|exact ft_ hz)|(exfalso;omega)))|((first |refine r_val rfl rfl ?_ ?_|refine r_gval rfl rfl rfl rfl ?_ ?_|refine r_obj rfl rfl ?_ ?_|refine r_sto rfl ?_ ?_|refine r_gobj rfl rfl rfl rfl ?_ ?_);focus (first |omega|exact le_ rfl|((repeat first |rw [wrap_u8]|rw [IntKind.wrap_i64]|rw [IntKind.wrap_i32]|rw [wrap_u32']|rw [wrap_u64']);(repeat' refine And.intro ?_ ?_)<;>omega)|((repeat' refine And.intro ?_ ?_)<;>first |omega|rfl|exact Nat.le_refl _|exact le_ rfl|exact bytesF_one _)|(simp_all;done)|(simp_all;omega)))|refine e_hit rfl ?_|refine e_miss rfl ?_|with_reducible refine ⟨by kernel_rfl, ?_⟩|refine x_endw rfl ?_|((with_reducible refine c_grd ?_);(fail_if_success (refine c_lit true rfl rfl rfl ?_));(fail_if_success (refine c_lit false rfl rfl rfl ?_));refine c_split rfl rfl (fun _ => ?_) (fun _ => ?_)))
      all_goals exact ⟨(i + 1, out ++ [(z.text, f)]), ⟨by dsimp only; omega, by dsimp only; omega, rfl⟩, by dsimp only; omega, ⟨by rw [e2, ← e1]; rfl, rfl, rfl, rfl, trivial⟩, ⟨by rw [e2]; rfl, trivial⟩, rfl, fun q hq => by rw [hX] at hq; cases hq⟩

end Go.Proofs.YtbegohehjkjnmaaDoor.Flow
