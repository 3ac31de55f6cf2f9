/- The texts Yc, Yd, Ye, Yf, one behind the other. -/
import Derived.Test.YtghdgjabpdfaoaaDoorP8
import Derived.Test.YtghdgjabpdfaoaaDoorP9
/- REQ: the document's: Accepts, Tags; the same ones? -/
namespace Go.Proofs.YtghdgjabpdfaoaaDoor.Flow
open Go

theorem raccepts_ctr (vs : List (List UInt8)) (hl : vs.length ≤ 3000) (hv : ∀ i, (vs.getD i []).length ≤ 100000) : Ctr Tryd.prog 50 [.sl 1 vs.length (wxF vs)] (.b (accV vs)) := by
  have c1 := best_ctr vs [103, 122, 105, 112] (by decide) hl hv
  have c2 := best_ctr vs [42] (by decide) hl hv
  have e : accV vs = match iget [103, 122, 105, 112] (valsV vs) with
    | some q => decide (0 < q)
    | none => decide (0 < (iget [42] (valsV vs)).getD 0) := rfl
  unfold bestD at c1 c2
  refine r_fun Tryd.func50 rfl Tryd.ntmps50 Tryd.results50 rfl rfl fun X hL hX => ?_
  rw [e]
  cases h1 : iget [103, 122, 105, 112] (valsV vs) with
  | some q =>
    rw [h1] at c1
    repeat' (first
      | refine r_call (f := 71) rfl rfl Tryd.call71 rfl c1 ?_
      | with_reducible (first | refine t_seq ?_ | refine t_region ?_ | refine c_nil ?_ | refine n_then ?_ | refine t_ret ?_ | refine t_skip ?_ | refine t_exit ?_ | refine t_block ?_ | refine n_block ?_ | refine e_then ?_ | refine x_then ?_ | refine x_block ?_ | refine t_draw ?_)
      | refine r_val rfl rfl True.intro ?_ | refine r_gskip rfl rfl rfl ?_ | refine r_gskip2 rfl rfl rfl ?_ | refine r_gval rfl rfl rfl rfl True.intro ?_
      | refine t_true rfl ?_ | refine t_false rfl ?_
      | ((first | refine t_cond_d rfl ?_ ?_ | refine t_cond_i rfl ?_ ?_ | refine t_cond_j rfl ?_ ?_ | refine t_cond_s rfl ?_ ?_ | refine t_cond_n rfl ?_ ?_ | refine t_cond rfl ?_ ?_ | refine c_split_d rfl rfl ?_ ?_ | refine c_split_i rfl rfl ?_ ?_ | refine c_split_j rfl rfl ?_ ?_ | refine c_split_s rfl rfl ?_ ?_ | refine c_split_n rfl rfl ?_ ?_) <;> intro <;> try (first | (rename_i hz; exact Bool.noConfusion (show true = false from hz)) | (rename_i hz; exact Bool.noConfusion (show false = true from hz)) | (exfalso; omega)))
      | ((first | refine r_val rfl rfl ?_ ?_ | refine r_gval rfl rfl rfl rfl ?_ ?_ | refine r_obj rfl rfl ?_ ?_ | refine r_sto rfl ?_ ?_ | refine r_gobj rfl rfl rfl rfl ?_ ?_); focus (first | omega | exact Nat.le_of_ble_eq_true rfl | (simp only [wrap_u8, IntKind.wrap_i64, IntKind.wrap_i32, wrap_u32', wrap_u64', InI]; (repeat' refine And.intro ?_ ?_) <;> omega) | ((repeat' refine And.intro ?_ ?_) <;> first | omega | rfl | exact Nat.le_refl _ | exact Nat.le_of_ble_eq_true rfl | exact bytesF_one _) | (simp_all; done) | (simp_all; omega)))
      | refine e_hit rfl ?_ | refine e_miss rfl ?_
      | with_reducible refine ⟨by kernel_rfl, ?_⟩ | refine x_end rfl ?_ | refine n_end rfl ?_ | ((with_reducible refine c_grd ?_); (fail_if_success (refine c_lit true rfl rfl rfl ?_)); (fail_if_success (refine c_lit false rfl rfl rfl ?_)); refine c_split rfl rfl (fun _ => ?_) (fun _ => ?_)))
    all_goals rfl
  | none =>
    rw [h1] at c1
    cases h2 : iget [42] (valsV vs) with
    | some q =>
      rw [h2] at c2
      repeat' (first
        | refine r_call (f := 71) rfl rfl Tryd.call71 rfl c1 ?_ | refine r_call (f := 71) rfl rfl Tryd.call71 rfl c2 ?_
        | with_reducible (first | refine t_seq ?_ | refine t_region ?_ | refine c_nil ?_ | refine n_then ?_ | refine t_ret ?_ | refine t_skip ?_ | refine t_exit ?_ | refine t_block ?_ | refine n_block ?_ | refine e_then ?_ | refine x_then ?_ | refine x_block ?_ | refine t_draw ?_)
        | refine r_val rfl rfl True.intro ?_ | refine r_gskip rfl rfl rfl ?_ | refine r_gskip2 rfl rfl rfl ?_ | refine r_gval rfl rfl rfl rfl True.intro ?_
        | refine t_true rfl ?_ | refine t_false rfl ?_
        | ((first | refine t_cond_d rfl ?_ ?_ | refine t_cond_i rfl ?_ ?_ | refine t_cond_j rfl ?_ ?_ | refine t_cond_s rfl ?_ ?_ | refine t_cond_n rfl ?_ ?_ | refine t_cond rfl ?_ ?_ | refine c_split_d rfl rfl ?_ ?_ | refine c_split_i rfl rfl ?_ ?_ | refine c_split_j rfl rfl ?_ ?_ | refine c_split_s rfl rfl ?_ ?_ | refine c_split_n rfl rfl ?_ ?_) <;> intro <;> try (first | (rename_i hz; exact Bool.noConfusion (show true = false from hz)) | (rename_i hz; exact Bool.noConfusion (show false = true from hz)) | (exfalso; omega)))
        | ((first | refine r_val rfl rfl ?_ ?_ | refine r_gval rfl rfl rfl rfl ?_ ?_ | refine r_obj rfl rfl ?_ ?_ | refine r_sto rfl ?_ ?_ | refine r_gobj rfl rfl rfl rfl ?_ ?_); focus (first | omega | exact Nat.le_of_ble_eq_true rfl | (simp only [wrap_u8, IntKind.wrap_i64, IntKind.wrap_i32, wrap_u32', wrap_u64', InI]; (repeat' refine And.intro ?_ ?_) <;> omega) | ((repeat' refine And.intro ?_ ?_) <;> first | omega | rfl | exact Nat.le_refl _ | exact Nat.le_of_ble_eq_true rfl | exact bytesF_one _) | (simp_all; done) | (simp_all; omega)))
        | refine e_hit rfl ?_ | refine e_miss rfl ?_
        | with_reducible refine ⟨by kernel_rfl, ?_⟩ | refine x_end rfl ?_ | refine n_end rfl ?_ | ((with_reducible refine c_grd ?_); (fail_if_success (refine c_lit true rfl rfl rfl ?_)); (fail_if_success (refine c_lit false rfl rfl rfl ?_)); refine c_split rfl rfl (fun _ => ?_) (fun _ => ?_)))
      all_goals rfl
    | none =>
      rw [h2] at c2
      repeat' (first
        | refine r_call (f := 71) rfl rfl Tryd.call71 rfl c1 ?_ | refine r_call (f := 71) rfl rfl Tryd.call71 rfl c2 ?_
        | with_reducible (first | refine t_seq ?_ | refine t_region ?_ | refine c_nil ?_ | refine n_then ?_ | refine t_ret ?_ | refine t_skip ?_ | refine t_exit ?_ | refine t_block ?_ | refine n_block ?_ | refine e_then ?_ | refine x_then ?_ | refine x_block ?_ | refine t_draw ?_)
        | refine r_val rfl rfl True.intro ?_ | refine r_gskip rfl rfl rfl ?_ | refine r_gskip2 rfl rfl rfl ?_ | refine r_gval rfl rfl rfl rfl True.intro ?_
        | refine t_true rfl ?_ | refine t_false rfl ?_
        | ((first | refine t_cond_d rfl ?_ ?_ | refine t_cond_i rfl ?_ ?_ | refine t_cond_j rfl ?_ ?_ | refine t_cond_s rfl ?_ ?_ | refine t_cond_n rfl ?_ ?_ | refine t_cond rfl ?_ ?_ | refine c_split_d rfl rfl ?_ ?_ | refine c_split_i rfl rfl ?_ ?_ | refine c_split_j rfl rfl ?_ ?_ | refine c_split_s rfl rfl ?_ ?_ | refine c_split_n rfl rfl ?_ ?_) <;> intro <;> try (first | (rename_i hz; exact Bool.noConfusion (show true = false from hz)) | (rename_i hz; exact Bool.noConfusion (show false = true from hz)) | (exfalso; omega)))
        | ((first | refine r_val rfl rfl ?_ ?_ | refine r_gval rfl rfl rfl rfl ?_ ?_ | refine r_obj rfl rfl ?_ ?_ | refine r_sto rfl ?_ ?_ | refine r_gobj rfl rfl rfl rfl ?_ ?_); focus (first | omega | exact Nat.le_of_ble_eq_true rfl | (simp only [wrap_u8, IntKind.wrap_i64, IntKind.wrap_i32, wrap_u32', wrap_u64', InI]; (repeat' refine And.intro ?_ ?_) <;> omega) | ((repeat' refine And.intro ?_ ?_) <;> first | omega | rfl | exact Nat.le_refl _ | exact Nat.le_of_ble_eq_true rfl | exact bytesF_one _) | (simp_all; done) | (simp_all; omega)))
        | refine e_hit rfl ?_ | refine e_miss rfl ?_
        | with_reducible refine ⟨by kernel_rfl, ?_⟩ | refine x_end rfl ?_ | refine n_end rfl ?_ | ((with_reducible refine c_grd ?_); (fail_if_success (refine c_lit true rfl rfl rfl ?_)); (fail_if_success (refine c_lit false rfl rfl rfl ?_)); refine c_split rfl rfl (fun _ => ?_) (fun _ => ?_)))
      all_goals rfl

/-! ### Tags -/
theorem preT_skip {s : List UInt8} {a : Nat} (ha : a < s.length) (h : ([32, 9, 44] : List UInt8).contains (s.getD a 0) = true) : preT (s.drop a) = preT (s.drop (a + 1)) := by
  have e : Lib.trimLeftS (s.drop a) [32, 9, 44] = Lib.trimLeftS (s.drop (a + 1)) [32, 9, 44] := by
    rw [List.drop_eq_getElem_cons ha]
    have : s[a] = s.getD a 0 := by simp [List.getD_eq_getElem?_getD, ha]
    unfold Lib.trimLeftS
    rw [List.dropWhile_cons, if_pos (by rw [this]; exact h)]
  unfold preT
  rw [e]
theorem tags_of_pre {s t : List UInt8} (h : preT s = preT t) : tagsV s = tagsV t := by
  by_cases hk : okT (preT s)
  · have h1 := tags_more hk
    have h2 := tags_more (s := t) (h ▸ hk)
    rw [h] at h1
    exact h1.trans h2.symm
  · rw [tags_end hk, tags_end (h ▸ hk)]
theorem preT_stay {s : List UInt8} {a : Nat} (ha : a < s.length) (h : ([32, 9, 44] : List UInt8).contains (s.getD a 0) = false) :
    preT (s.drop a) = s.drop (if s.length - a > 2 ∧ at' s a = 87 ∧ at' s (a + 1 : Nat) = 47 ∧ at' s (a + 2 : Nat) = 34 then a + 2 else a) := by
  have e : Lib.trimLeftS (s.drop a) [32, 9, 44] = s.drop a := by
    rw [List.drop_eq_getElem_cons ha]
    have : s[a] = s.getD a 0 := by simp [List.getD_eq_getElem?_getD, ha]
    unfold Lib.trimLeftS
    rw [List.dropWhile_cons, if_neg (by rw [this, h]; exact Bool.false_ne_true)]
  unfold preT
  rw [e]
  have key : Lib.hasPrefix (s.drop a) [87, 47, 34] = true ↔ (s.length - a > 2 ∧ at' s a = 87 ∧ at' s (a + 1 : Nat) = 47 ∧ at' s (a + 2 : Nat) = 34) := by
    rw [atN, atN, atN, show s.getD a 0 = (s.drop a).getD 0 0 from (dropD s a 0).symm, ← dropD s a 1, ← dropD s a 2, ← List.length_drop]
    have q : ∀ (x : UInt8) (n : UInt8), (x.toNat : Int) = (n.toNat : Int) ↔ x = n := fun x n => (byteN x n).symm
    rw [show (87 : Int) = ((87 : UInt8).toNat : Int) from rfl, show (47 : Int) = ((47 : UInt8).toNat : Int) from rfl, show (34 : Int) = ((34 : UInt8).toNat : Int) from rfl, q, q, q]
    generalize s.drop a = t
    unfold Lib.hasPrefix
    match t with
    | [] => simp
    | [x] => simp
    | [x, y] => simp
    | x :: y :: z :: t => 
      simp
      constructor
      · rintro ⟨rfl, rfl, rfl⟩
        exact ⟨rfl, rfl, rfl⟩
      · rintro ⟨rfl, rfl, rfl⟩
        exact ⟨rfl, rfl, rfl⟩
  by_cases hp : Lib.hasPrefix (s.drop a) [87, 47, 34] = true
  · rw [if_pos hp, if_pos (key.1 hp), List.drop_drop]
  · rw [if_neg hp, if_neg (fun q => hp (key.2 q))]

theorem sep3 (s : List UInt8) (a : Nat) : ([32, 9, 44] : List UInt8).contains (s.getD a 0) = (blB (at' s a) || (at' s a == 44)) := by
  have h : ∀ n : Fin 256, ([32, 9, 44] : List UInt8).contains (UInt8.ofNat n.1) = (blB (n.1 : Int) || ((n.1 : Int) == 44)) := by decide +kernel
  have h := h ⟨(s.getD a 0).toNat, (s.getD a 0).toNat_lt⟩
  rw [show UInt8.ofNat (s.getD a 0).toNat = s.getD a 0 by simp] at h
  rw [atN]
  exact h

set_option maxRecDepth 100000 in
set_option maxHeartbeats 8000000 in
theorem rtags_ctr (vs : List (List UInt8)) (hl : vs.length ≤ 3000) (hv : ∀ i, (vs.getD i []).length ≤ 100000) : Ctr Tryd.prog 51 [.sl 1 vs.length (wxF vs)] (lsD (tagsA vs)) := by
  refine r_fun Tryd.func51 rfl Tryd.ntmps51 Tryd.results51 rfl rfl fun X hL hX => ?_
  repeat' (first
    | with_reducible (first | refine t_seq ?_ | refine t_region ?_ | refine c_nil ?_ | refine n_then ?_ | refine t_ret ?_ | refine t_skip ?_ | refine t_exit ?_ | refine t_block ?_ | refine n_block ?_ | refine e_then ?_ | refine x_then ?_ | refine x_block ?_ | refine t_draw ?_)
    | refine r_val rfl rfl True.intro ?_ | refine r_gskip rfl rfl rfl ?_ | refine r_gskip2 rfl rfl rfl ?_ | refine r_gval rfl rfl rfl rfl True.intro ?_
    | refine t_true rfl ?_ | refine t_false rfl ?_
    | ((first | refine t_cond_d rfl ?_ ?_ | refine t_cond_i rfl ?_ ?_ | refine t_cond_j rfl ?_ ?_ | refine t_cond_s rfl ?_ ?_ | refine t_cond_n rfl ?_ ?_ | refine t_cond rfl ?_ ?_ | refine c_split_d rfl rfl ?_ ?_ | refine c_split_i rfl rfl ?_ ?_ | refine c_split_j rfl rfl ?_ ?_ | refine c_split_s rfl rfl ?_ ?_ | refine c_split_n rfl rfl ?_ ?_) <;> intro <;> try (first | (rename_i hz; exact Bool.noConfusion (show true = false from hz)) | (rename_i hz; exact Bool.noConfusion (show false = true from hz)) | (exfalso; omega)))
    | ((first | refine r_val rfl rfl ?_ ?_ | refine r_gval rfl rfl rfl rfl ?_ ?_ | refine r_obj rfl rfl ?_ ?_ | refine r_sto rfl ?_ ?_ | refine r_gobj rfl rfl rfl rfl ?_ ?_); focus (first | omega | exact Nat.le_of_ble_eq_true rfl | (simp only [wrap_u8, IntKind.wrap_i64, IntKind.wrap_i32, wrap_u32', wrap_u64', InI]; (repeat' refine And.intro ?_ ?_) <;> omega) | ((repeat' refine And.intro ?_ ?_) <;> first | omega | rfl | exact Nat.le_refl _ | exact Nat.le_of_ble_eq_true rfl | exact bytesF_one _) | (simp_all; done) | (simp_all; omega)))
    | refine e_hit rfl ?_ | refine e_miss rfl ?_
    | with_reducible refine ⟨by kernel_rfl, ?_⟩ | ((with_reducible refine c_grd ?_); (fail_if_success (refine c_lit true rfl rfl rfl ?_)); (fail_if_success (refine c_lit false rfl rfl rfl ?_)); refine c_split rfl rfl (fun _ => ?_) (fun _ => ?_)))
  refine T.loop hL (fun i : Nat => [(0, .sl 1 vs.length (wxF vs)), (4, .nilS), (5, .i .i64 i)]) (fun _ => []) (fun i => i ≤ vs.length ∧ (vs.take i).any (fun v => decide (v = [42])) = false) (fun i => vs.length - i) 0 ⟨Nat.zero_le _, by simp⟩
    ⟨⟨rfl, rfl, rfl, trivial⟩, trivial, rfl, fun q hq => by rw [hX] at hq; simp at hq⟩ ?_
  rintro i ⟨hi, hany⟩
  by_cases hil : i < vs.length
  · have hst : (vs.take (i + 1)).any (fun v => decide (v = [42])) = ((vs.take i).any (fun v => decide (v = [42])) || decide (vs.getD i [] = [42])) := by
      rw [List.take_add_one, List.any_append]
      congr 1
      have : vs[i]? = some (vs.getD i []) := by simp [List.getD_eq_getElem?_getD, hil]
      rw [this]
      simp
    have hnat : (i : Int).toNat = i := Int.toNat_natCast i
    by_cases hs : vs.getD i [] = [42]
    · have hT : tagsA vs = ([], true) := if_pos (List.any_eq_true.2 ⟨vs.getD i [], by
        rw [List.getD_eq_getElem?_getD, List.getElem?_eq_getElem hil, Option.getD_some]
        exact List.getElem_mem hil, by simpa using hs⟩)
      have hs' : vs.getD (i : Int).toNat [] = [42] := by rw [hnat]; exact hs
      rw [hT]
      repeat' (first
        | with_reducible (first | refine t_seq ?_ | refine t_region ?_ | refine c_nil ?_ | refine n_then ?_ | refine t_ret ?_ | refine t_skip ?_ | refine t_exit ?_ | refine t_block ?_ | refine n_block ?_ | refine e_then ?_ | refine x_then ?_ | refine x_block ?_ | refine t_draw ?_)
        | refine r_val rfl rfl True.intro ?_ | refine r_gskip rfl rfl rfl ?_ | refine r_gskip2 rfl rfl rfl ?_ | refine r_gval rfl rfl rfl rfl True.intro ?_
        | refine t_true rfl ?_ | refine t_false rfl ?_
        | ((first | refine t_cond_d rfl ?_ ?_ | refine t_cond_i rfl ?_ ?_ | refine t_cond_j rfl ?_ ?_ | refine t_cond_s rfl ?_ ?_ | refine t_cond_n rfl ?_ ?_ | refine t_cond rfl ?_ ?_ | refine c_split_d rfl rfl ?_ ?_ | refine c_split_i rfl rfl ?_ ?_ | refine c_split_j rfl rfl ?_ ?_ | refine c_split_s rfl rfl ?_ ?_ | refine c_split_n rfl rfl ?_ ?_) <;> intro <;> try (first | (rename_i hz; exact Bool.noConfusion (show true = false from hz)) | (rename_i hz; exact Bool.noConfusion (show false = true from hz)) | (exfalso; omega)))
        | ((first | refine r_val rfl rfl ?_ ?_ | refine r_gval rfl rfl rfl rfl ?_ ?_ | refine r_obj rfl rfl ?_ ?_ | refine r_sto rfl ?_ ?_ | refine r_gobj rfl rfl rfl rfl ?_ ?_); focus (first | omega | exact Nat.le_of_ble_eq_true rfl | (simp only [wrap_u8, IntKind.wrap_i64, IntKind.wrap_i32, wrap_u32', wrap_u64', InI]; (repeat' refine And.intro ?_ ?_) <;> omega) | ((repeat' refine And.intro ?_ ?_) <;> first | omega | rfl | exact Nat.le_refl _ | exact Nat.le_of_ble_eq_true rfl | exact bytesF_one _) | (simp_all; done) | (simp_all; omega)))
        | refine e_hit rfl ?_ | refine e_miss rfl ?_
        | with_reducible refine ⟨by kernel_rfl, ?_⟩ | refine x_endw rfl ?_ | refine n_endw rfl ?_ | ((with_reducible refine c_grd ?_); (fail_if_success (refine c_lit true rfl rfl rfl ?_)); (fail_if_success (refine c_lit false rfl rfl rfl ?_)); refine c_split rfl rfl (fun _ => ?_) (fun _ => ?_)))
      · exact .tu2 (.nil 1 _) (.refl _)
      · rename_i hz
        exact absurd hs' hz
    · have hs' : ¬ vs.getD (i : Int).toNat [] = [42] := by rw [hnat]; exact hs
      repeat' (first
        | with_reducible (first | refine t_seq ?_ | refine t_region ?_ | refine c_nil ?_ | refine n_then ?_ | refine t_ret ?_ | refine t_skip ?_ | refine t_exit ?_ | refine t_block ?_ | refine n_block ?_ | refine e_then ?_ | refine x_then ?_ | refine x_block ?_ | refine t_draw ?_)
        | refine r_val rfl rfl True.intro ?_ | refine r_gskip rfl rfl rfl ?_ | refine r_gskip2 rfl rfl rfl ?_ | refine r_gval rfl rfl rfl rfl True.intro ?_
        | refine t_true rfl ?_ | refine t_false rfl ?_
        | ((first | refine t_cond_d rfl ?_ ?_ | refine t_cond_i rfl ?_ ?_ | refine t_cond_j rfl ?_ ?_ | refine t_cond_s rfl ?_ ?_ | refine t_cond_n rfl ?_ ?_ | refine t_cond rfl ?_ ?_ | refine c_split_d rfl rfl ?_ ?_ | refine c_split_i rfl rfl ?_ ?_ | refine c_split_j rfl rfl ?_ ?_ | refine c_split_s rfl rfl ?_ ?_ | refine c_split_n rfl rfl ?_ ?_) <;> intro <;> try (first | (rename_i hz; exact Bool.noConfusion (show true = false from hz)) | (rename_i hz; exact Bool.noConfusion (show false = true from hz)) | (exfalso; omega)))
        | ((first | refine r_val rfl rfl ?_ ?_ | refine r_gval rfl rfl rfl rfl ?_ ?_ | refine r_obj rfl rfl ?_ ?_ | refine r_sto rfl ?_ ?_ | refine r_gobj rfl rfl rfl rfl ?_ ?_); focus (first | omega | exact Nat.le_of_ble_eq_true rfl | (simp only [wrap_u8, IntKind.wrap_i64, IntKind.wrap_i32, wrap_u32', wrap_u64', InI]; (repeat' refine And.intro ?_ ?_) <;> omega) | ((repeat' refine And.intro ?_ ?_) <;> first | omega | rfl | exact Nat.le_refl _ | exact Nat.le_of_ble_eq_true rfl | exact bytesF_one _) | (simp_all; done) | (simp_all; omega)))
        | refine e_hit rfl ?_ | refine e_miss rfl ?_
        | with_reducible refine ⟨by kernel_rfl, ?_⟩ | refine x_endw rfl ?_ | refine n_endw rfl ?_ | ((with_reducible refine c_grd ?_); (fail_if_success (refine c_lit true rfl rfl rfl ?_)); (fail_if_success (refine c_lit false rfl rfl rfl ?_)); refine c_split rfl rfl (fun _ => ?_) (fun _ => ?_)))
      · rename_i hz
        exact absurd hz hs'
      · exact ⟨i + 1, ⟨by omega, by rw [hst, hany, decide_eq_false hs]; rfl⟩, by omega, ⟨rfl, rfl, congrArg (D.i .i64) (by omega), trivial⟩, trivial, rfl, fun q hq => by rw [hX] at hq; simp at hq⟩
  · have : i = vs.length := by omega
    subst this
    rw [List.take_length] at hany
    have hT : tagsA vs = (vs.flatMap tagsV, false) := if_neg (by rw [hany]; exact Bool.false_ne_true)
    rw [hT]
    repeat' (first
      | with_reducible (first | refine t_seq ?_ | refine t_region ?_ | refine c_nil ?_ | refine n_then ?_ | refine t_ret ?_ | refine t_skip ?_ | refine t_exit ?_ | refine t_block ?_ | refine n_block ?_ | refine e_then ?_ | refine x_then ?_ | refine x_block ?_ | refine t_draw ?_)
      | refine r_val rfl rfl True.intro ?_ | refine r_gskip rfl rfl rfl ?_ | refine r_gskip2 rfl rfl rfl ?_ | refine r_gval rfl rfl rfl rfl True.intro ?_
      | refine t_true rfl ?_ | refine t_false rfl ?_
      | ((first | refine t_cond_d rfl ?_ ?_ | refine t_cond_i rfl ?_ ?_ | refine t_cond_j rfl ?_ ?_ | refine t_cond_s rfl ?_ ?_ | refine t_cond_n rfl ?_ ?_ | refine t_cond rfl ?_ ?_ | refine c_split_d rfl rfl ?_ ?_ | refine c_split_i rfl rfl ?_ ?_ | refine c_split_j rfl rfl ?_ ?_ | refine c_split_s rfl rfl ?_ ?_ | refine c_split_n rfl rfl ?_ ?_) <;> intro <;> try (first | (rename_i hz; exact Bool.noConfusion (show true = false from hz)) | (rename_i hz; exact Bool.noConfusion (show false = true from hz)) | (exfalso; omega)))
      | ((first | refine r_val rfl rfl ?_ ?_ | refine r_gval rfl rfl rfl rfl ?_ ?_ | refine r_obj rfl rfl ?_ ?_ | refine r_sto rfl ?_ ?_ | refine r_gobj rfl rfl rfl rfl ?_ ?_); focus (first | omega | exact Nat.le_of_ble_eq_true rfl | (simp only [wrap_u8, IntKind.wrap_i64, IntKind.wrap_i32, wrap_u32', wrap_u64', InI]; (repeat' refine And.intro ?_ ?_) <;> omega) | ((repeat' refine And.intro ?_ ?_) <;> first | omega | rfl | exact Nat.le_refl _ | exact Nat.le_of_ble_eq_true rfl | exact bytesF_one _) | (simp_all; done) | (simp_all; omega)))
      | refine e_hit rfl ?_ | refine e_miss rfl ?_
      | with_reducible refine ⟨by kernel_rfl, ?_⟩ | ((with_reducible refine c_grd ?_); (fail_if_success (refine c_lit true rfl rfl rfl ?_)); (fail_if_success (refine c_lit false rfl rfl rfl ?_)); refine c_split rfl rfl (fun _ => ?_) (fun _ => ?_)))
    refine T.adopt 4 4 9 1 (wxF []) rfl rfl ?_
    refine T.loop hL (fun i : Nat => [(0, .sl 1 vs.length (wxF vs)), (4, .gs 4 1 ((vs.take i).flatMap tagsV).length (wxF ((vs.take i).flatMap tagsV))), (6, .i .i64 i)]) (fun i => [(4, .row 9 1 ((vs.take i).flatMap tagsV).length)]) (fun i => i ≤ vs.length ∧ ((vs.take i).flatMap tagsV).length ≤ i * 100000) (fun i => vs.length - i) 0 ⟨Nat.zero_le _, Nat.zero_le _⟩
      ⟨⟨rfl, rfl, rfl, trivial⟩, ⟨rfl, trivial⟩, rfl, fun q hq => by rw [hX] at hq; simp at hq⟩ ?_
    rintro i ⟨hi, hsz⟩
    by_cases hil : i < vs.length
    · have hst : (vs.take (i + 1)).flatMap tagsV = (vs.take i).flatMap tagsV ++ tagsV (vs.getD i []) := by
        rw [List.take_add_one, List.flatMap_append]
        congr 1
        have : vs[i]? = some (vs.getD i []) := by simp [List.getD_eq_getElem?_getD, hil]
        rw [this]
        simp
      have hnat : (i : Int).toNat = i := Int.toNat_natCast i
      have hvi := hv i
      repeat' (first
        | with_reducible (first | refine t_seq ?_ | refine t_region ?_ | refine c_nil ?_ | refine n_then ?_ | refine t_ret ?_ | refine t_skip ?_ | refine t_exit ?_ | refine t_block ?_ | refine n_block ?_ | refine e_then ?_ | refine x_then ?_ | refine x_block ?_ | refine t_draw ?_)
        | refine r_val rfl rfl True.intro ?_ | refine r_gskip rfl rfl rfl ?_ | refine r_gskip2 rfl rfl rfl ?_ | refine r_gval rfl rfl rfl rfl True.intro ?_
        | refine t_true rfl ?_ | refine t_false rfl ?_
        | ((first | refine t_cond_d rfl ?_ ?_ | refine t_cond_i rfl ?_ ?_ | refine t_cond_j rfl ?_ ?_ | refine t_cond_s rfl ?_ ?_ | refine t_cond_n rfl ?_ ?_ | refine t_cond rfl ?_ ?_ | refine c_split_d rfl rfl ?_ ?_ | refine c_split_i rfl rfl ?_ ?_ | refine c_split_j rfl rfl ?_ ?_ | refine c_split_s rfl rfl ?_ ?_ | refine c_split_n rfl rfl ?_ ?_) <;> intro <;> try (first | (rename_i hz; exact Bool.noConfusion (show true = false from hz)) | (rename_i hz; exact Bool.noConfusion (show false = true from hz)) | (exfalso; omega)))
        | ((first | refine r_val rfl rfl ?_ ?_ | refine r_gval rfl rfl rfl rfl ?_ ?_ | refine r_obj rfl rfl ?_ ?_ | refine r_sto rfl ?_ ?_ | refine r_gobj rfl rfl rfl rfl ?_ ?_); focus (first | omega | exact Nat.le_of_ble_eq_true rfl | (simp only [wrap_u8, IntKind.wrap_i64, IntKind.wrap_i32, wrap_u32', wrap_u64', InI]; (repeat' refine And.intro ?_ ?_) <;> omega) | ((repeat' refine And.intro ?_ ?_) <;> first | omega | rfl | exact Nat.le_refl _ | exact Nat.le_of_ble_eq_true rfl | exact bytesF_one _) | (simp_all; done) | (simp_all; omega)))
        | refine e_hit rfl ?_ | refine e_miss rfl ?_
        | with_reducible refine ⟨by kernel_rfl, ?_⟩ | ((with_reducible refine c_grd ?_); (fail_if_success (refine c_lit true rfl rfl rfl ?_)); (fail_if_success (refine c_lit false rfl rfl rfl ?_)); refine c_split rfl rfl (fun _ => ?_) (fun _ => ?_)))
      rw [hnat]
      generalize vs.getD i [] = s at *
      generalize hF : (vs.take (i + 1)).flatMap tagsV = F at *
      generalize (vs.take i).flatMap tagsV = L at *
      have hfin : ∀ (fr : Fr) (ow : Ow), getD' 0 fr = .sl 1 vs.length (wxF vs) → getD' 4 fr = .gs 4 1 F.length (wxF F) → getD' 6 fr = .i .i64 ((i : Int) + 1) → look 4 ow = some (.row 9 1 F.length) → F.length ≤ (i + 1) * 100000 → ∃ y, (y ≤ vs.length ∧ ((vs.take y).flatMap tagsV).length ≤ y * 100000) ∧ vs.length - y < vs.length - i ∧
          Le X fr ow [(0, .sl 1 vs.length (wxF vs)), (4, .gs 4 1 ((vs.take y).flatMap tagsV).length (wxF ((vs.take y).flatMap tagsV))), (6, .i .i64 y)] [(4, .row 9 1 ((vs.take y).flatMap tagsV).length)] := fun fr ow h1 h2 h3 h4 h5 =>
        ⟨i + 1, by rw [hF]; exact ⟨by omega, h5⟩, by omega, by
          rw [hF]
          exact ⟨⟨h1, h2, h3.trans (congrArg (D.i .i64) (by omega)), trivial⟩, ⟨h4, trivial⟩, rfl, fun q hq => by rw [hX] at hq; simp at hq⟩⟩
      refine T.loop hL (fun x : List (List UInt8) × Nat => [(0, .sl 1 vs.length (wxF vs)), (4, .gs 4 1 x.1.length (wxF x.1)), (6, .i .i64 i), (7, .s s), (8, .i .i64 x.2)]) (fun x => [(4, .row 9 1 x.1.length)])
        (fun x => x.2 ≤ s.length ∧ x.1 ++ tagsV (s.drop x.2) = F ∧ x.1.length ≤ i * 100000 + x.2) (fun x => s.length - x.2) (L, 0) ⟨Nat.zero_le _, by dsimp only; rw [List.drop_zero]; exact hst.symm, Nat.le_trans hsz (Nat.le_add_right _ _)⟩
        ⟨⟨rfl, rfl, rfl, rfl, rfl, trivial⟩, ⟨rfl, trivial⟩, rfl, fun q hq => by rw [hX] at hq; simp at hq⟩ ?_
      clear hst hsz
      rintro ⟨l, a⟩ ⟨ha, hI, hn⟩
      dsimp only at ha hI hn ⊢
      by_cases hal : a < s.length
      · have c1 := blank_ctr (at' s a)
        have hsep := sep3 s a
        cases hb : blB (at' s a) with
        | true =>
          rw [hb] at c1 hsep
          have hp := tags_of_pre (preT_skip hal hsep)
          clear hb hsep
          repeat' (first
            | refine r_call (f := 70) rfl rfl Tryd.call70 rfl c1 ?_
            | with_reducible (first | refine t_seq ?_ | refine t_region ?_ | refine c_nil ?_ | refine n_then ?_ | refine t_ret ?_ | refine t_skip ?_ | refine t_exit ?_ | refine t_block ?_ | refine n_block ?_ | refine e_then ?_ | refine x_then ?_ | refine x_block ?_ | refine t_draw ?_)
            | refine r_val rfl rfl True.intro ?_ | refine r_gskip rfl rfl rfl ?_ | refine r_gskip2 rfl rfl rfl ?_ | refine r_gval rfl rfl rfl rfl True.intro ?_
            | refine t_true rfl ?_ | refine t_false rfl ?_
            | ((first | refine t_cond_d rfl ?_ ?_ | refine t_cond_i rfl ?_ ?_ | refine t_cond_j rfl ?_ ?_ | refine t_cond_s rfl ?_ ?_ | refine t_cond_n rfl ?_ ?_ | refine t_cond rfl ?_ ?_ | refine c_split_d rfl rfl ?_ ?_ | refine c_split_i rfl rfl ?_ ?_ | refine c_split_j rfl rfl ?_ ?_ | refine c_split_s rfl rfl ?_ ?_ | refine c_split_n rfl rfl ?_ ?_) <;> intro <;> try (first | (rename_i hz; exact Bool.noConfusion (show true = false from hz)) | (rename_i hz; exact Bool.noConfusion (show false = true from hz)) | (exfalso; omega)))
            | ((first | refine r_val rfl rfl ?_ ?_ | refine r_gval rfl rfl rfl rfl ?_ ?_ | refine r_obj rfl rfl ?_ ?_ | refine r_sto rfl ?_ ?_ | refine r_gobj rfl rfl rfl rfl ?_ ?_); focus (first | omega | exact Nat.le_of_ble_eq_true rfl | (simp only [wrap_u8, IntKind.wrap_i64, IntKind.wrap_i32, wrap_u32', wrap_u64', InI]; (repeat' refine And.intro ?_ ?_) <;> omega) | ((repeat' refine And.intro ?_ ?_) <;> first | omega | rfl | exact Nat.le_refl _ | exact Nat.le_of_ble_eq_true rfl | exact bytesF_one _) | (simp_all; done) | (simp_all; omega)))
            | refine e_hit rfl ?_ | refine e_miss rfl ?_
            | with_reducible refine ⟨by kernel_rfl, ?_⟩ | ((with_reducible refine c_grd ?_); (fail_if_success (refine c_lit true rfl rfl rfl ?_)); (fail_if_success (refine c_lit false rfl rfl rfl ?_)); refine c_split rfl rfl (fun _ => ?_) (fun _ => ?_)))
          all_goals exact ⟨(l, a + 1), ⟨hal, by dsimp only; rw [← hp]; exact hI, by dsimp only; omega⟩, by dsimp only; omega, ⟨rfl, rfl, rfl, rfl, congrArg (D.i .i64) (by dsimp only; omega), trivial⟩, ⟨rfl, trivial⟩, rfl, fun q hq => by rw [hX] at hq; simp at hq⟩
        | false =>
          rw [hb] at c1 hsep
          by_cases h44 : at' s a = 44
          · have hp := tags_of_pre (preT_skip hal (hsep.trans (by rw [h44]; rfl)))
            clear hb hsep
            repeat' (first
              | refine r_call (f := 70) rfl rfl Tryd.call70 rfl c1 ?_
              | with_reducible (first | refine t_seq ?_ | refine t_region ?_ | refine c_nil ?_ | refine n_then ?_ | refine t_ret ?_ | refine t_skip ?_ | refine t_exit ?_ | refine t_block ?_ | refine n_block ?_ | refine e_then ?_ | refine x_then ?_ | refine x_block ?_ | refine t_draw ?_)
              | refine r_val rfl rfl True.intro ?_ | refine r_gskip rfl rfl rfl ?_ | refine r_gskip2 rfl rfl rfl ?_ | refine r_gval rfl rfl rfl rfl True.intro ?_
              | refine t_true rfl ?_ | refine t_false rfl ?_
              | ((first | refine t_cond_d rfl ?_ ?_ | refine t_cond_i rfl ?_ ?_ | refine t_cond_j rfl ?_ ?_ | refine t_cond_s rfl ?_ ?_ | refine t_cond_n rfl ?_ ?_ | refine t_cond rfl ?_ ?_ | refine c_split_d rfl rfl ?_ ?_ | refine c_split_i rfl rfl ?_ ?_ | refine c_split_j rfl rfl ?_ ?_ | refine c_split_s rfl rfl ?_ ?_ | refine c_split_n rfl rfl ?_ ?_) <;> intro <;> try (first | (rename_i hz; exact Bool.noConfusion (show true = false from hz)) | (rename_i hz; exact Bool.noConfusion (show false = true from hz)) | (exfalso; omega)))
              | ((first | refine r_val rfl rfl ?_ ?_ | refine r_gval rfl rfl rfl rfl ?_ ?_ | refine r_obj rfl rfl ?_ ?_ | refine r_sto rfl ?_ ?_ | refine r_gobj rfl rfl rfl rfl ?_ ?_); focus (first | omega | exact Nat.le_of_ble_eq_true rfl | (simp only [wrap_u8, IntKind.wrap_i64, IntKind.wrap_i32, wrap_u32', wrap_u64', InI]; (repeat' refine And.intro ?_ ?_) <;> omega) | ((repeat' refine And.intro ?_ ?_) <;> first | omega | rfl | exact Nat.le_refl _ | exact Nat.le_of_ble_eq_true rfl | exact bytesF_one _) | (simp_all; done) | (simp_all; omega)))
              | refine e_hit rfl ?_ | refine e_miss rfl ?_
              | with_reducible refine ⟨by kernel_rfl, ?_⟩ | ((with_reducible refine c_grd ?_); (fail_if_success (refine c_lit true rfl rfl rfl ?_)); (fail_if_success (refine c_lit false rfl rfl rfl ?_)); refine c_split rfl rfl (fun _ => ?_) (fun _ => ?_)))
            all_goals exact ⟨(l, a + 1), ⟨hal, by dsimp only; rw [← hp]; exact hI, by dsimp only; omega⟩, by dsimp only; omega, ⟨rfl, rfl, rfl, rfl, congrArg (D.i .i64) (by dsimp only; omega), trivial⟩, ⟨rfl, trivial⟩, rfl, fun q hq => by rw [hX] at hq; simp at hq⟩
          · have hp := preT_stay hal (hsep.trans (by rw [beq_eq_false_iff_ne.2 h44]; rfl))
            have r1 : at' s ((a : Int) + 1) = at' s ((a + 1 : Nat) : Int) := rfl
            have r2 : at' s ((a : Int) + 2) = at' s ((a + 2 : Nat) : Int) := rfl
            clear hb hsep
            generalize hf : (if s.length - a > 2 ∧ at' s a = 87 ∧ at' s (a + 1 : Nat) = 47 ∧ at' s (a + 2 : Nat) = 34 then a + 2 else a) = f at *
            have hfr : (f = a + 2 ∧ s.length - a > 2 ∧ at' s a = 87 ∧ at' s (a + 1 : Nat) = 47 ∧ at' s (a + 2 : Nat) = 34) ∨ (f = a ∧ ¬ (s.length - a > 2 ∧ at' s a = 87 ∧ at' s (a + 1 : Nat) = 47 ∧ at' s (a + 2 : Nat) = 34)) := by
              by_cases h : s.length - a > 2 ∧ at' s a = 87 ∧ at' s (a + 1 : Nat) = 47 ∧ at' s (a + 2 : Nat) = 34
              · rw [if_pos h] at hf
                exact .inl ⟨hf.symm, h⟩
              · rw [if_neg h] at hf
                exact .inr ⟨hf.symm, h⟩
            have hfl : f < s.length := by omega
            have hfa : a ≤ f := by omega
            repeat' (first
              | refine r_mid 16 hL (fun _ : Unit => [(0, .sl 1 vs.length (wxF vs)), (4, .gs 4 1 l.length (wxF l)), (6, .i .i64 i), (7, .s s), (8, .i .i64 a), (9, .i .i64 f)]) (fun _ => [(4, .row 9 1 l.length)]) (fun _ => True) ?_ ?_ | refine r_call (f := 70) rfl rfl Tryd.call70 rfl c1 ?_
              | with_reducible (first | refine t_seq ?_ | refine t_region ?_ | refine c_nil ?_ | refine n_then ?_ | refine t_ret ?_ | refine t_skip ?_ | refine t_exit ?_ | refine t_block ?_ | refine n_block ?_ | refine e_then ?_ | refine x_then ?_ | refine x_block ?_ | refine t_draw ?_)
              | refine r_val rfl rfl True.intro ?_ | refine r_gskip rfl rfl rfl ?_ | refine r_gskip2 rfl rfl rfl ?_ | refine r_gval rfl rfl rfl rfl True.intro ?_
              | refine t_true rfl ?_ | refine t_false rfl ?_
              | ((first | refine t_cond_d rfl ?_ ?_ | refine t_cond_i rfl ?_ ?_ | refine t_cond_j rfl ?_ ?_ | refine t_cond_s rfl ?_ ?_ | refine t_cond_n rfl ?_ ?_ | refine t_cond rfl ?_ ?_ | refine c_split_d rfl rfl ?_ ?_ | refine c_split_i rfl rfl ?_ ?_ | refine c_split_j rfl rfl ?_ ?_ | refine c_split_s rfl rfl ?_ ?_ | refine c_split_n rfl rfl ?_ ?_) <;> intro <;> try (first | (rename_i hz; exact Bool.noConfusion (show true = false from hz)) | (rename_i hz; exact Bool.noConfusion (show false = true from hz)) | (exfalso; omega)))
              | ((first | refine r_val rfl rfl ?_ ?_ | refine r_gval rfl rfl rfl rfl ?_ ?_ | refine r_obj rfl rfl ?_ ?_ | refine r_sto rfl ?_ ?_ | refine r_gobj rfl rfl rfl rfl ?_ ?_); focus (first | omega | exact Nat.le_of_ble_eq_true rfl | (simp only [wrap_u8, IntKind.wrap_i64, IntKind.wrap_i32, wrap_u32', wrap_u64', InI]; (repeat' refine And.intro ?_ ?_) <;> omega) | ((repeat' refine And.intro ?_ ?_) <;> first | omega | rfl | exact Nat.le_refl _ | exact Nat.le_of_ble_eq_true rfl | exact bytesF_one _) | (simp_all; done) | (simp_all; omega)))
              | refine e_hit rfl ?_ | refine e_miss rfl ?_
              | with_reducible refine ⟨by kernel_rfl, ?_⟩ | ((with_reducible refine c_grd ?_); (fail_if_success (refine c_lit true rfl rfl rfl ?_)); (fail_if_success (refine c_lit false rfl rfl rfl ?_)); refine c_split rfl rfl (fun _ => ?_) (fun _ => ?_)))
            all_goals first
              | exact ⟨(), trivial, ⟨rfl, rfl, rfl, rfl, rfl, congrArg (D.i .i64) (by omega), trivial⟩, ⟨rfl, trivial⟩, rfl, fun q hq => by rw [hX] at hq; simp at hq⟩
              | (exfalso; omega)
              | skip
            rintro ⟨⟩ -
            clear hf
            have hmore : okT (s.drop f) → tagsV (s.drop a) = (s.drop f).take (tagN (s.drop f) + 1) :: tagsV ((s.drop f).drop (tagN (s.drop f) + 1)) := fun h => by
              have := tags_more (s := s.drop a) (by rw [hp]; exact h)
              rwa [hp] at this
            have hend : ¬ okT (s.drop f) → tagsV (s.drop a) = [] := fun h => tags_end (by rw [hp]; exact h)
            have hne : ¬ s.drop f = [] := fun h => by
              have := congrArg List.length h
              rw [List.length_drop, List.length_nil] at this
              omega
            have hg0 := dropD s f 0
            by_cases h34 : at' s f = 34
            · have hp34 : (s.drop f).getD 0 0 = 34 := by
                rw [dropD]
                exact (byte34 _).2 (by rw [Nat.add_zero, ← atN]; exact h34)
              have htl := tagN_le hne
              rw [List.length_drop] at htl
              clear hfr r1 r2 c1
              repeat' (first
                | with_reducible (first | refine t_seq ?_ | refine t_region ?_ | refine c_nil ?_ | refine n_then ?_ | refine t_ret ?_ | refine t_skip ?_ | refine t_exit ?_ | refine t_block ?_ | refine n_block ?_ | refine e_then ?_ | refine x_then ?_ | refine x_block ?_ | refine t_draw ?_)
                | refine r_val rfl rfl True.intro ?_ | refine r_gskip rfl rfl rfl ?_ | refine r_gskip2 rfl rfl rfl ?_ | refine r_gval rfl rfl rfl rfl True.intro ?_
                | refine t_true rfl ?_ | refine t_false rfl ?_
                | ((first | refine t_cond_d rfl ?_ ?_ | refine t_cond_i rfl ?_ ?_ | refine t_cond_j rfl ?_ ?_ | refine t_cond_s rfl ?_ ?_ | refine t_cond_n rfl ?_ ?_ | refine t_cond rfl ?_ ?_ | refine c_split_d rfl rfl ?_ ?_ | refine c_split_i rfl rfl ?_ ?_ | refine c_split_j rfl rfl ?_ ?_ | refine c_split_s rfl rfl ?_ ?_ | refine c_split_n rfl rfl ?_ ?_) <;> intro <;> try (first | (rename_i hz; exact Bool.noConfusion (show true = false from hz)) | (rename_i hz; exact Bool.noConfusion (show false = true from hz)) | (exfalso; omega)))
                | ((first | refine r_val rfl rfl ?_ ?_ | refine r_gval rfl rfl rfl rfl ?_ ?_ | refine r_obj rfl rfl ?_ ?_ | refine r_sto rfl ?_ ?_ | refine r_gobj rfl rfl rfl rfl ?_ ?_); focus (first | omega | exact Nat.le_of_ble_eq_true rfl | (simp only [wrap_u8, IntKind.wrap_i64, IntKind.wrap_i32, wrap_u32', wrap_u64', InI]; (repeat' refine And.intro ?_ ?_) <;> omega) | ((repeat' refine And.intro ?_ ?_) <;> first | omega | rfl | exact Nat.le_refl _ | exact Nat.le_of_ble_eq_true rfl | exact bytesF_one _) | (simp_all; done) | (simp_all; omega)))
                | refine e_hit rfl ?_ | refine e_miss rfl ?_
                | with_reducible refine ⟨by kernel_rfl, ?_⟩ | ((with_reducible refine c_grd ?_); (fail_if_success (refine c_lit true rfl rfl rfl ?_)); (fail_if_success (refine c_lit false rfl rfl rfl ?_)); refine c_split rfl rfl (fun _ => ?_) (fun _ => ?_)))
              refine T.loop hL (fun e : Nat => [(0, .sl 1 vs.length (wxF vs)), (4, .gs 4 1 l.length (wxF l)), (6, .i .i64 i), (7, .s s), (8, .i .i64 a), (9, .i .i64 f), (10, .i .i64 (f + e : Nat))]) (fun _ => [(4, .row 9 1 l.length)]) (fun e => 1 ≤ e ∧ e ≤ tagN (s.drop f)) (fun e => s.length - e) 1 ⟨Nat.le_refl _, by unfold tagN; omega⟩
                ⟨⟨rfl, rfl, rfl, rfl, rfl, rfl, rfl, trivial⟩, ⟨rfl, trivial⟩, rfl, fun q hq => by rw [hX] at hq; simp at hq⟩ ?_
              rintro e ⟨he1, he2⟩
              have hde := dropD s f e
              by_cases hel : f + e < s.length
              · have hae := atN s (f + e)
                by_cases hg : tgO ((s.drop f).getD e 0) = true
                · have hgg := of_decide_eq_true hg
                  rw [hde] at hgg
                  have hna : 32 < at' s (f + e : Nat) ∧ ¬ at' s (f + e : Nat) = 127 ∧ ¬ at' s (f + e : Nat) = 34 := by omega
                  have hm := tagN_more he1 he2 (by rw [List.length_drop]; omega) hg
                  clear hgg hae
                  repeat' (first
                    | with_reducible (first | refine t_seq ?_ | refine t_region ?_ | refine c_nil ?_ | refine n_then ?_ | refine t_ret ?_ | refine t_skip ?_ | refine t_exit ?_ | refine t_block ?_ | refine n_block ?_ | refine e_then ?_ | refine x_then ?_ | refine x_block ?_ | refine t_draw ?_)
                    | refine r_val rfl rfl True.intro ?_ | refine r_gskip rfl rfl rfl ?_ | refine r_gskip2 rfl rfl rfl ?_ | refine r_gval rfl rfl rfl rfl True.intro ?_
                    | refine t_true rfl ?_ | refine t_false rfl ?_
                    | ((first | refine t_cond_d rfl ?_ ?_ | refine t_cond_i rfl ?_ ?_ | refine t_cond_j rfl ?_ ?_ | refine t_cond_s rfl ?_ ?_ | refine t_cond_n rfl ?_ ?_ | refine t_cond rfl ?_ ?_ | refine c_split_d rfl rfl ?_ ?_ | refine c_split_i rfl rfl ?_ ?_ | refine c_split_j rfl rfl ?_ ?_ | refine c_split_s rfl rfl ?_ ?_ | refine c_split_n rfl rfl ?_ ?_) <;> intro <;> try (first | (rename_i hz; exact Bool.noConfusion (show true = false from hz)) | (rename_i hz; exact Bool.noConfusion (show false = true from hz)) | (exfalso; omega)))
                    | ((first | refine r_val rfl rfl ?_ ?_ | refine r_gval rfl rfl rfl rfl ?_ ?_ | refine r_obj rfl rfl ?_ ?_ | refine r_sto rfl ?_ ?_ | refine r_gobj rfl rfl rfl rfl ?_ ?_); focus (first | omega | exact Nat.le_of_ble_eq_true rfl | (simp only [wrap_u8, IntKind.wrap_i64, IntKind.wrap_i32, wrap_u32', wrap_u64', InI]; (repeat' refine And.intro ?_ ?_) <;> omega) | ((repeat' refine And.intro ?_ ?_) <;> first | omega | rfl | exact Nat.le_refl _ | exact Nat.le_of_ble_eq_true rfl | exact bytesF_one _) | (simp_all; done) | (simp_all; omega)))
                    | refine e_hit rfl ?_ | refine e_miss rfl ?_
                    | with_reducible refine ⟨by kernel_rfl, ?_⟩ | ((with_reducible refine c_grd ?_); (fail_if_success (refine c_lit true rfl rfl rfl ?_)); (fail_if_success (refine c_lit false rfl rfl rfl ?_)); refine c_split rfl rfl (fun _ => ?_) (fun _ => ?_)))
                  all_goals exact ⟨e + 1, ⟨by omega, hm⟩, by omega, ⟨rfl, rfl, rfl, rfl, rfl, rfl, congrArg (D.i .i64) (by omega), trivial⟩, ⟨rfl, trivial⟩, rfl, fun q hq => by rw [hX] at hq; simp at hq⟩
                · have hg' : tgO ((s.drop f).getD e 0) = false := by simpa using hg
                  have htn : tagN (s.drop f) = e := tagN_stop he1 he2 (.inr hg')
                  have hgg := of_decide_eq_false hg'
                  rw [hde] at hgg
                  by_cases hq : at' s (f + e : Nat) = 34
                  · have hok : okT (s.drop f) := ⟨hne, hp34, by rw [List.length_drop]; omega, by rw [htn, hde]; exact (byte34 _).2 (by rw [← atN]; exact hq)⟩
                    have hmo := hmore hok
                    rw [htn, List.drop_drop] at hmo
                    rw [hmo] at hI
                    clear hgg hae hend hmore
                    repeat' (first
                      | with_reducible (first | refine t_seq ?_ | refine t_region ?_ | refine c_nil ?_ | refine n_then ?_ | refine t_ret ?_ | refine t_skip ?_ | refine t_exit ?_ | refine t_block ?_ | refine n_block ?_ | refine e_then ?_ | refine x_then ?_ | refine x_block ?_ | refine t_draw ?_)
                      | refine r_val rfl rfl True.intro ?_ | refine r_gskip rfl rfl rfl ?_ | refine r_gskip2 rfl rfl rfl ?_ | refine r_gval rfl rfl rfl rfl True.intro ?_
                      | refine t_true rfl ?_ | refine t_false rfl ?_
                      | ((first | refine t_cond_d rfl ?_ ?_ | refine t_cond_i rfl ?_ ?_ | refine t_cond_j rfl ?_ ?_ | refine t_cond_s rfl ?_ ?_ | refine t_cond_n rfl ?_ ?_ | refine t_cond rfl ?_ ?_ | refine c_split_d rfl rfl ?_ ?_ | refine c_split_i rfl rfl ?_ ?_ | refine c_split_j rfl rfl ?_ ?_ | refine c_split_s rfl rfl ?_ ?_ | refine c_split_n rfl rfl ?_ ?_) <;> intro <;> try (first | (rename_i hz; exact Bool.noConfusion (show true = false from hz)) | (rename_i hz; exact Bool.noConfusion (show false = true from hz)) | (exfalso; omega)))
                      | ((first | refine r_val rfl rfl ?_ ?_ | refine r_gval rfl rfl rfl rfl ?_ ?_ | refine r_obj rfl rfl ?_ ?_ | refine r_sto rfl ?_ ?_ | refine r_gobj rfl rfl rfl rfl ?_ ?_); focus (first | omega | exact Nat.le_of_ble_eq_true rfl | (simp only [wrap_u8, IntKind.wrap_i64, IntKind.wrap_i32, wrap_u32', wrap_u64', InI]; (repeat' refine And.intro ?_ ?_) <;> omega) | ((repeat' refine And.intro ?_ ?_) <;> first | omega | rfl | exact Nat.le_refl _ | exact Nat.le_of_ble_eq_true rfl | exact bytesF_one _) | (simp_all; done) | (simp_all; omega)))
                      | refine e_hit rfl ?_ | refine e_miss rfl ?_
                      | with_reducible refine ⟨by kernel_rfl, ?_⟩ | ((with_reducible refine c_grd ?_); (fail_if_success (refine c_lit true rfl rfl rfl ?_)); (fail_if_success (refine c_lit false rfl rfl rfl ?_)); refine c_split rfl rfl (fun _ => ?_) (fun _ => ?_)))
                    have hA : List.drop (f : Int).toNat (List.take (((f + e : Nat) : Int) + 1).toNat s) = (s.drop f).take (e + 1) := by
                      rw [Int.toNat_natCast, show (((f + e : Nat) : Int) + 1).toNat = f + (e + 1) by omega, List.drop_take, Nat.add_sub_cancel_left]
                    have hB : (l ++ [(s.drop f).take (e + 1)]).length = l.length + 1 := by simp
                    have hC : catF l.length (wxF l) 1 (chunk 1 [D.s (List.drop (f : Int).toNat (List.take (((f + e : Nat) : Int) + 1).toNat s))]) = wxF (l ++ [(s.drop f).take (e + 1)]) := by
                      rw [hA]
                      exact catF_wx l _ _ rfl
                    exact ⟨(l ++ [(s.drop f).take (e + 1)], f + (e + 1)), ⟨by dsimp only; omega, by dsimp only; rw [List.append_assoc]; exact hI, by dsimp only; rw [hB]; omega⟩, by dsimp only; omega,
                      ⟨rfl, (by
                        show D.gs 4 1 (l.length + 1) _ = D.gs 4 1 (l ++ [(s.drop f).take (e + 1)]).length (wxF (l ++ [(s.drop f).take (e + 1)]))
                        rw [hB, ← hC]), rfl, rfl, congrArg (D.i .i64) (by dsimp only; omega), trivial⟩, ⟨(by
                        show _ = some (Own.row 9 1 (l ++ [(s.drop f).take (e + 1)]).length)
                        rw [hB]
                        rfl), trivial⟩, rfl, fun q hq => by rw [hX] at hq; simp at hq⟩
                  · have he3 : tagsV (s.drop a) = [] := hend fun q => hq (by
                      rw [atN, ← hde, ← htn, q.2.2.2]
                      rfl)
                    rw [he3, List.append_nil] at hI
                    subst hI
                    have hna : ¬ (32 < at' s (f + e : Nat) ∧ ¬ at' s (f + e : Nat) = 127) := by omega
                    clear hgg hae hend hmore
                    repeat' (first
                      | with_reducible (first | refine t_seq ?_ | refine t_region ?_ | refine c_nil ?_ | refine n_then ?_ | refine t_ret ?_ | refine t_skip ?_ | refine t_exit ?_ | refine t_block ?_ | refine n_block ?_ | refine e_then ?_ | refine x_then ?_ | refine x_block ?_ | refine t_draw ?_)
                      | refine r_val rfl rfl True.intro ?_ | refine r_gskip rfl rfl rfl ?_ | refine r_gskip2 rfl rfl rfl ?_ | refine r_gval rfl rfl rfl rfl True.intro ?_
                      | refine t_true rfl ?_ | refine t_false rfl ?_
                      | ((first | refine t_cond_d rfl ?_ ?_ | refine t_cond_i rfl ?_ ?_ | refine t_cond_j rfl ?_ ?_ | refine t_cond_s rfl ?_ ?_ | refine t_cond_n rfl ?_ ?_ | refine t_cond rfl ?_ ?_ | refine c_split_d rfl rfl ?_ ?_ | refine c_split_i rfl rfl ?_ ?_ | refine c_split_j rfl rfl ?_ ?_ | refine c_split_s rfl rfl ?_ ?_ | refine c_split_n rfl rfl ?_ ?_) <;> intro <;> try (first | (rename_i hz; exact Bool.noConfusion (show true = false from hz)) | (rename_i hz; exact Bool.noConfusion (show false = true from hz)) | (exfalso; omega)))
                      | ((first | refine r_val rfl rfl ?_ ?_ | refine r_gval rfl rfl rfl rfl ?_ ?_ | refine r_obj rfl rfl ?_ ?_ | refine r_sto rfl ?_ ?_ | refine r_gobj rfl rfl rfl rfl ?_ ?_); focus (first | omega | exact Nat.le_of_ble_eq_true rfl | (simp only [wrap_u8, IntKind.wrap_i64, IntKind.wrap_i32, wrap_u32', wrap_u64', InI]; (repeat' refine And.intro ?_ ?_) <;> omega) | ((repeat' refine And.intro ?_ ?_) <;> first | omega | rfl | exact Nat.le_refl _ | exact Nat.le_of_ble_eq_true rfl | exact bytesF_one _) | (simp_all; done) | (simp_all; omega)))
                      | refine e_hit rfl ?_ | refine e_miss rfl ?_
                      | with_reducible refine ⟨by kernel_rfl, ?_⟩ | ((with_reducible refine c_grd ?_); (fail_if_success (refine c_lit true rfl rfl rfl ?_)); (fail_if_success (refine c_lit false rfl rfl rfl ?_)); refine c_split rfl rfl (fun _ => ?_) (fun _ => ?_)))
                    all_goals exact hfin _ _ rfl rfl rfl rfl (by omega)
              · have htn : tagN (s.drop f) = e := by omega
                have he3 : tagsV (s.drop a) = [] := hend fun q => by
                  have := q.2.2.1
                  rw [List.length_drop] at this
                  omega
                rw [he3, List.append_nil] at hI
                subst hI
                clear hend hmore
                repeat' (first
                  | with_reducible (first | refine t_seq ?_ | refine t_region ?_ | refine c_nil ?_ | refine n_then ?_ | refine t_ret ?_ | refine t_skip ?_ | refine t_exit ?_ | refine t_block ?_ | refine n_block ?_ | refine e_then ?_ | refine x_then ?_ | refine x_block ?_ | refine t_draw ?_)
                  | refine r_val rfl rfl True.intro ?_ | refine r_gskip rfl rfl rfl ?_ | refine r_gskip2 rfl rfl rfl ?_ | refine r_gval rfl rfl rfl rfl True.intro ?_
                  | refine t_true rfl ?_ | refine t_false rfl ?_
                  | ((first | refine t_cond_d rfl ?_ ?_ | refine t_cond_i rfl ?_ ?_ | refine t_cond_j rfl ?_ ?_ | refine t_cond_s rfl ?_ ?_ | refine t_cond_n rfl ?_ ?_ | refine t_cond rfl ?_ ?_ | refine c_split_d rfl rfl ?_ ?_ | refine c_split_i rfl rfl ?_ ?_ | refine c_split_j rfl rfl ?_ ?_ | refine c_split_s rfl rfl ?_ ?_ | refine c_split_n rfl rfl ?_ ?_) <;> intro <;> try (first | (rename_i hz; exact Bool.noConfusion (show true = false from hz)) | (rename_i hz; exact Bool.noConfusion (show false = true from hz)) | (exfalso; omega)))
                  | ((first | refine r_val rfl rfl ?_ ?_ | refine r_gval rfl rfl rfl rfl ?_ ?_ | refine r_obj rfl rfl ?_ ?_ | refine r_sto rfl ?_ ?_ | refine r_gobj rfl rfl rfl rfl ?_ ?_); focus (first | omega | exact Nat.le_of_ble_eq_true rfl | (simp only [wrap_u8, IntKind.wrap_i64, IntKind.wrap_i32, wrap_u32', wrap_u64', InI]; (repeat' refine And.intro ?_ ?_) <;> omega) | ((repeat' refine And.intro ?_ ?_) <;> first | omega | rfl | exact Nat.le_refl _ | exact Nat.le_of_ble_eq_true rfl | exact bytesF_one _) | (simp_all; done) | (simp_all; omega)))
                  | refine e_hit rfl ?_ | refine e_miss rfl ?_
                  | with_reducible refine ⟨by kernel_rfl, ?_⟩ | ((with_reducible refine c_grd ?_); (fail_if_success (refine c_lit true rfl rfl rfl ?_)); (fail_if_success (refine c_lit false rfl rfl rfl ?_)); refine c_split rfl rfl (fun _ => ?_) (fun _ => ?_)))
                all_goals exact hfin _ _ rfl rfl rfl rfl (by omega)
            · have he3 : tagsV (s.drop a) = [] := hend fun q => h34 (by
                have h1 := q.2.1
                rw [dropD, Nat.add_zero] at h1
                rw [atN, h1]
                rfl)
              rw [he3, List.append_nil] at hI
              subst hI
              clear hend hmore hfr r1 r2 c1
              repeat' (first
                | with_reducible (first | refine t_seq ?_ | refine t_region ?_ | refine c_nil ?_ | refine n_then ?_ | refine t_ret ?_ | refine t_skip ?_ | refine t_exit ?_ | refine t_block ?_ | refine n_block ?_ | refine e_then ?_ | refine x_then ?_ | refine x_block ?_ | refine t_draw ?_)
                | refine r_val rfl rfl True.intro ?_ | refine r_gskip rfl rfl rfl ?_ | refine r_gskip2 rfl rfl rfl ?_ | refine r_gval rfl rfl rfl rfl True.intro ?_
                | refine t_true rfl ?_ | refine t_false rfl ?_
                | ((first | refine t_cond_d rfl ?_ ?_ | refine t_cond_i rfl ?_ ?_ | refine t_cond_j rfl ?_ ?_ | refine t_cond_s rfl ?_ ?_ | refine t_cond_n rfl ?_ ?_ | refine t_cond rfl ?_ ?_ | refine c_split_d rfl rfl ?_ ?_ | refine c_split_i rfl rfl ?_ ?_ | refine c_split_j rfl rfl ?_ ?_ | refine c_split_s rfl rfl ?_ ?_ | refine c_split_n rfl rfl ?_ ?_) <;> intro <;> try (first | (rename_i hz; exact Bool.noConfusion (show true = false from hz)) | (rename_i hz; exact Bool.noConfusion (show false = true from hz)) | (exfalso; omega)))
                | ((first | refine r_val rfl rfl ?_ ?_ | refine r_gval rfl rfl rfl rfl ?_ ?_ | refine r_obj rfl rfl ?_ ?_ | refine r_sto rfl ?_ ?_ | refine r_gobj rfl rfl rfl rfl ?_ ?_); focus (first | omega | exact Nat.le_of_ble_eq_true rfl | (simp only [wrap_u8, IntKind.wrap_i64, IntKind.wrap_i32, wrap_u32', wrap_u64', InI]; (repeat' refine And.intro ?_ ?_) <;> omega) | ((repeat' refine And.intro ?_ ?_) <;> first | omega | rfl | exact Nat.le_refl _ | exact Nat.le_of_ble_eq_true rfl | exact bytesF_one _) | (simp_all; done) | (simp_all; omega)))
                | refine e_hit rfl ?_ | refine e_miss rfl ?_
                | with_reducible refine ⟨by kernel_rfl, ?_⟩ | ((with_reducible refine c_grd ?_); (fail_if_success (refine c_lit true rfl rfl rfl ?_)); (fail_if_success (refine c_lit false rfl rfl rfl ?_)); refine c_split rfl rfl (fun _ => ?_) (fun _ => ?_)))
              all_goals exact hfin _ _ rfl rfl rfl rfl (by omega)
      · have e : tagsV (s.drop a) = [] := by
          rw [List.drop_eq_nil_of_le (by omega)]
          exact tags_end (by decide +kernel)
        rw [e, List.append_nil] at hI
        subst hI
        repeat' (first
          | with_reducible (first | refine t_seq ?_ | refine t_region ?_ | refine c_nil ?_ | refine n_then ?_ | refine t_ret ?_ | refine t_skip ?_ | refine t_exit ?_ | refine t_block ?_ | refine n_block ?_ | refine e_then ?_ | refine x_then ?_ | refine x_block ?_ | refine t_draw ?_)
          | refine r_val rfl rfl True.intro ?_ | refine r_gskip rfl rfl rfl ?_ | refine r_gskip2 rfl rfl rfl ?_ | refine r_gval rfl rfl rfl rfl True.intro ?_
          | refine t_true rfl ?_ | refine t_false rfl ?_
          | ((first | refine t_cond_d rfl ?_ ?_ | refine t_cond_i rfl ?_ ?_ | refine t_cond_j rfl ?_ ?_ | refine t_cond_s rfl ?_ ?_ | refine t_cond_n rfl ?_ ?_ | refine t_cond rfl ?_ ?_ | refine c_split_d rfl rfl ?_ ?_ | refine c_split_i rfl rfl ?_ ?_ | refine c_split_j rfl rfl ?_ ?_ | refine c_split_s rfl rfl ?_ ?_ | refine c_split_n rfl rfl ?_ ?_) <;> intro <;> try (first | (rename_i hz; exact Bool.noConfusion (show true = false from hz)) | (rename_i hz; exact Bool.noConfusion (show false = true from hz)) | (exfalso; omega)))
          | ((first | refine r_val rfl rfl ?_ ?_ | refine r_gval rfl rfl rfl rfl ?_ ?_ | refine r_obj rfl rfl ?_ ?_ | refine r_sto rfl ?_ ?_ | refine r_gobj rfl rfl rfl rfl ?_ ?_); focus (first | omega | exact Nat.le_of_ble_eq_true rfl | (simp only [wrap_u8, IntKind.wrap_i64, IntKind.wrap_i32, wrap_u32', wrap_u64', InI]; (repeat' refine And.intro ?_ ?_) <;> omega) | ((repeat' refine And.intro ?_ ?_) <;> first | omega | rfl | exact Nat.le_refl _ | exact Nat.le_of_ble_eq_true rfl | exact bytesF_one _) | (simp_all; done) | (simp_all; omega)))
          | refine e_hit rfl ?_ | refine e_miss rfl ?_
          | with_reducible refine ⟨by kernel_rfl, ?_⟩ | ((with_reducible refine c_grd ?_); (fail_if_success (refine c_lit true rfl rfl rfl ?_)); (fail_if_success (refine c_lit false rfl rfl rfl ?_)); refine c_split rfl rfl (fun _ => ?_) (fun _ => ?_)))
        all_goals exact hfin _ _ rfl rfl rfl rfl (by omega)
    · have : i = vs.length := by omega
      subst this
      rw [List.take_length]
      repeat' (first
        | with_reducible (first | refine t_seq ?_ | refine t_region ?_ | refine c_nil ?_ | refine n_then ?_ | refine t_ret ?_ | refine t_skip ?_ | refine t_exit ?_ | refine t_block ?_ | refine n_block ?_ | refine e_then ?_ | refine x_then ?_ | refine x_block ?_ | refine t_draw ?_)
        | refine r_val rfl rfl True.intro ?_ | refine r_gskip rfl rfl rfl ?_ | refine r_gskip2 rfl rfl rfl ?_ | refine r_gval rfl rfl rfl rfl True.intro ?_
        | refine t_true rfl ?_ | refine t_false rfl ?_
        | ((first | refine t_cond_d rfl ?_ ?_ | refine t_cond_i rfl ?_ ?_ | refine t_cond_j rfl ?_ ?_ | refine t_cond_s rfl ?_ ?_ | refine t_cond_n rfl ?_ ?_ | refine t_cond rfl ?_ ?_ | refine c_split_d rfl rfl ?_ ?_ | refine c_split_i rfl rfl ?_ ?_ | refine c_split_j rfl rfl ?_ ?_ | refine c_split_s rfl rfl ?_ ?_ | refine c_split_n rfl rfl ?_ ?_) <;> intro <;> try (first | (rename_i hz; exact Bool.noConfusion (show true = false from hz)) | (rename_i hz; exact Bool.noConfusion (show false = true from hz)) | (exfalso; omega)))
        | ((first | refine r_val rfl rfl ?_ ?_ | refine r_gval rfl rfl rfl rfl ?_ ?_ | refine r_obj rfl rfl ?_ ?_ | refine r_sto rfl ?_ ?_ | refine r_gobj rfl rfl rfl rfl ?_ ?_); focus (first | omega | exact Nat.le_of_ble_eq_true rfl | (simp only [wrap_u8, IntKind.wrap_i64, IntKind.wrap_i32, wrap_u32', wrap_u64', InI]; (repeat' refine And.intro ?_ ?_) <;> omega) | ((repeat' refine And.intro ?_ ?_) <;> first | omega | rfl | exact Nat.le_refl _ | exact Nat.le_of_ble_eq_true rfl | exact bytesF_one _) | (simp_all; done) | (simp_all; omega)))
        | refine e_hit rfl ?_ | refine e_miss rfl ?_
        | with_reducible refine ⟨by kernel_rfl, ?_⟩ | refine x_end rfl ?_ | refine n_end rfl ?_ | ((with_reducible refine c_grd ?_); (fail_if_success (refine c_lit true rfl rfl rfl ?_)); (fail_if_success (refine c_lit false rfl rfl rfl ?_)); refine c_split rfl rfl (fun _ => ?_) (fun _ => ?_)))
      all_goals rfl

/-! ### The same ones? -/
set_option maxRecDepth 100000 in
theorem sameTexts_ctr (l : List (List UInt8)) (hl : l.length ≤ 100000000) : Ctr Tryd.prog 52 [.sl 1 l.length (wxF l), .sl 1 l.length (wxF l)] (.b true) := by
  refine r_fun Tryd.func52 rfl Tryd.ntmps52 Tryd.results52 rfl rfl fun X hL hX => ?_
  repeat' (first
    | with_reducible (first | refine t_seq ?_ | refine t_region ?_ | refine c_nil ?_ | refine n_then ?_ | refine t_ret ?_ | refine t_skip ?_ | refine t_exit ?_ | refine t_block ?_ | refine n_block ?_ | refine e_then ?_ | refine x_then ?_ | refine x_block ?_ | refine t_draw ?_)
    | refine r_val rfl rfl True.intro ?_ | refine r_gskip rfl rfl rfl ?_ | refine r_gskip2 rfl rfl rfl ?_ | refine r_gval rfl rfl rfl rfl True.intro ?_
    | refine t_true rfl ?_ | refine t_false rfl ?_
    | ((first | refine t_cond_d rfl ?_ ?_ | refine t_cond_i rfl ?_ ?_ | refine t_cond_j rfl ?_ ?_ | refine t_cond_s rfl ?_ ?_ | refine t_cond_n rfl ?_ ?_ | refine t_cond rfl ?_ ?_ | refine c_split_d rfl rfl ?_ ?_ | refine c_split_i rfl rfl ?_ ?_ | refine c_split_j rfl rfl ?_ ?_ | refine c_split_s rfl rfl ?_ ?_ | refine c_split_n rfl rfl ?_ ?_) <;> intro <;> try (first | (rename_i hz; exact Bool.noConfusion (show true = false from hz)) | (rename_i hz; exact Bool.noConfusion (show false = true from hz)) | (exfalso; omega)))
    | ((first | refine r_val rfl rfl ?_ ?_ | refine r_gval rfl rfl rfl rfl ?_ ?_ | refine r_obj rfl rfl ?_ ?_ | refine r_sto rfl ?_ ?_ | refine r_gobj rfl rfl rfl rfl ?_ ?_); focus (first | omega | exact Nat.le_of_ble_eq_true rfl | (simp only [wrap_u8, IntKind.wrap_i64, IntKind.wrap_i32, wrap_u32', wrap_u64', InI]; (repeat' refine And.intro ?_ ?_) <;> omega) | ((repeat' refine And.intro ?_ ?_) <;> first | omega | rfl | exact Nat.le_refl _ | exact Nat.le_of_ble_eq_true rfl | exact bytesF_one _) | (simp_all; done) | (simp_all; omega)))
    | refine e_hit rfl ?_ | refine e_miss rfl ?_
    | with_reducible refine ⟨by kernel_rfl, ?_⟩ | refine x_end rfl ?_ | refine n_end rfl ?_ | ((with_reducible refine c_grd ?_); (fail_if_success (refine c_lit true rfl rfl rfl ?_)); (fail_if_success (refine c_lit false rfl rfl rfl ?_)); refine c_split rfl rfl (fun _ => ?_) (fun _ => ?_)))
  refine T.loop hL (fun i : Nat => [(0, .sl 1 l.length (wxF l)), (1, .sl 1 l.length (wxF l)), (5, .i .i64 i)]) (fun _ => []) (fun i => i ≤ l.length) (fun i => l.length - i) 0 (Nat.zero_le _)
    ⟨⟨rfl, rfl, rfl, trivial⟩, trivial, rfl, fun q hq => by rw [hX] at hq; simp at hq⟩ ?_
  intro i hi
  repeat' (first
    | with_reducible (first | refine t_seq ?_ | refine t_region ?_ | refine c_nil ?_ | refine n_then ?_ | refine t_ret ?_ | refine t_skip ?_ | refine t_exit ?_ | refine t_block ?_ | refine n_block ?_ | refine e_then ?_ | refine x_then ?_ | refine x_block ?_ | refine t_draw ?_)
    | refine r_val rfl rfl True.intro ?_ | refine r_gskip rfl rfl rfl ?_ | refine r_gskip2 rfl rfl rfl ?_ | refine r_gval rfl rfl rfl rfl True.intro ?_
    | refine t_true rfl ?_ | refine t_false rfl ?_
    | ((first | refine t_cond_d rfl ?_ ?_ | refine t_cond_i rfl ?_ ?_ | refine t_cond_j rfl ?_ ?_ | refine t_cond_s rfl ?_ ?_ | refine t_cond_n rfl ?_ ?_ | refine t_cond rfl ?_ ?_ | refine c_split_d rfl rfl ?_ ?_ | refine c_split_i rfl rfl ?_ ?_ | refine c_split_j rfl rfl ?_ ?_ | refine c_split_s rfl rfl ?_ ?_ | refine c_split_n rfl rfl ?_ ?_) <;> intro <;> try (first | (rename_i hz; exact Bool.noConfusion (show true = false from hz)) | (rename_i hz; exact Bool.noConfusion (show false = true from hz)) | (exfalso; omega)))
    | ((first | refine r_val rfl rfl ?_ ?_ | refine r_gval rfl rfl rfl rfl ?_ ?_ | refine r_obj rfl rfl ?_ ?_ | refine r_sto rfl ?_ ?_ | refine r_gobj rfl rfl rfl rfl ?_ ?_); focus (first | omega | exact Nat.le_of_ble_eq_true rfl | (simp only [wrap_u8, IntKind.wrap_i64, IntKind.wrap_i32, wrap_u32', wrap_u64', InI]; (repeat' refine And.intro ?_ ?_) <;> omega) | ((repeat' refine And.intro ?_ ?_) <;> first | omega | rfl | exact Nat.le_refl _ | exact Nat.le_of_ble_eq_true rfl | exact bytesF_one _) | (simp_all; done) | (simp_all; omega)))
    | refine e_hit rfl ?_ | refine e_miss rfl ?_
    | with_reducible refine ⟨by kernel_rfl, ?_⟩ | refine x_end rfl ?_ | refine n_end rfl ?_ | ((with_reducible refine c_grd ?_); (fail_if_success (refine c_lit true rfl rfl rfl ?_)); (fail_if_success (refine c_lit false rfl rfl rfl ?_)); refine c_split rfl rfl (fun _ => ?_) (fun _ => ?_)))
  all_goals first
    | rfl
    | (exfalso; rename_i q; simp at q; done)
    | exact ⟨i + 1, by omega, by omega, ⟨rfl, rfl, congrArg (D.i .i64) (by omega), trivial⟩, trivial, rfl, fun q hq => by rw [hX] at hq; simp at hq⟩

set_option maxRecDepth 100000 in
theorem same_ctr (m p : List UInt8) (g a : Bool) (t : List (List UInt8)) (ht : t.length ≤ 100000000) : Ctr Tryd.prog 21 [.ag [.s m, .s p, .b g, .b a, .sl 1 t.length (wxF t)], .ag [.s m, .s p, .b g, .b a, .sl 1 t.length (wxF t)]] (.b true) := by
  have c1 := sameTexts_ctr t ht
  refine r_fun Tryd.func21 rfl Tryd.ntmps21 Tryd.results21 rfl rfl fun X hL hX => ?_
  repeat' (first
    | refine r_call (f := 52) rfl rfl Tryd.call52 rfl c1 ?_
    | with_reducible (first | refine t_seq ?_ | refine t_region ?_ | refine c_nil ?_ | refine n_then ?_ | refine t_ret ?_ | refine t_skip ?_ | refine t_exit ?_ | refine t_block ?_ | refine n_block ?_ | refine e_then ?_ | refine x_then ?_ | refine x_block ?_ | refine t_draw ?_)
    | refine r_val rfl rfl True.intro ?_ | refine r_gskip rfl rfl rfl ?_ | refine r_gskip2 rfl rfl rfl ?_ | refine r_gval rfl rfl rfl rfl True.intro ?_
    | refine t_true rfl ?_ | refine t_false rfl ?_
    | ((first | refine t_cond_d rfl ?_ ?_ | refine t_cond_i rfl ?_ ?_ | refine t_cond_j rfl ?_ ?_ | refine t_cond_s rfl ?_ ?_ | refine t_cond_n rfl ?_ ?_ | refine t_cond rfl ?_ ?_ | refine c_split_d rfl rfl ?_ ?_ | refine c_split_i rfl rfl ?_ ?_ | refine c_split_j rfl rfl ?_ ?_ | refine c_split_s rfl rfl ?_ ?_ | refine c_split_n rfl rfl ?_ ?_) <;> intro <;> try (first | (rename_i hz; exact Bool.noConfusion (show true = false from hz)) | (rename_i hz; exact Bool.noConfusion (show false = true from hz)) | (exfalso; omega)))
    | ((first | refine r_val rfl rfl ?_ ?_ | refine r_gval rfl rfl rfl rfl ?_ ?_ | refine r_obj rfl rfl ?_ ?_ | refine r_sto rfl ?_ ?_ | refine r_gobj rfl rfl rfl rfl ?_ ?_); focus (first | omega | exact Nat.le_of_ble_eq_true rfl | (simp only [wrap_u8, IntKind.wrap_i64, IntKind.wrap_i32, wrap_u32', wrap_u64', InI]; (repeat' refine And.intro ?_ ?_) <;> omega) | ((repeat' refine And.intro ?_ ?_) <;> first | omega | rfl | exact Nat.le_refl _ | exact Nat.le_of_ble_eq_true rfl | exact bytesF_one _) | (simp_all; done) | (simp_all; omega)))
    | refine e_hit rfl ?_ | refine e_miss rfl ?_
    | with_reducible refine ⟨by kernel_rfl, ?_⟩ | refine x_end rfl ?_ | refine n_end rfl ?_ | ((with_reducible refine c_grd ?_); (fail_if_success (refine c_lit true rfl rfl rfl ?_)); (fail_if_success (refine c_lit false rfl rfl rfl ?_)); refine c_split rfl rfl (fun _ => ?_) (fun _ => ?_)))
  all_goals first
    | rfl
    | (exfalso; simp only [beq_self_eq_true, Bool.not_true, Bool.true_eq_false, Bool.false_eq_true, Bool.not_false] at *; done)
theorem same0_ctr : Ctr Tryd.prog 21 [.ag [.s [], .s [], .b false, .b false, .nilS], .ag [.s [], .s [], .b false, .b false, .nilS]] (.b true) :=
  (same_ctr [] [] false false [] (by decide)).weak2 (.ag _ _ rfl fun j hj => match j, hj with
    | 0, _ => .refl _
    | 1, _ => .refl _
    | 2, _ => .refl _
    | 3, _ => .refl _
    | 4, _ => .nil 1 _) (.ag _ _ rfl fun j hj => match j, hj with
    | 0, _ => .refl _
    | 1, _ => .refl _
    | 2, _ => .refl _
    | 3, _ => .refl _
    | 4, _ => .nil 1 _)

end Go.Proofs.YtghdgjabpdfaoaaDoor.Flow

/- REQ: lines and headers (plain): what the document's way and the program's have in common. -/
namespace Go.Proofs.YtghdgjabpdfaoaaDoor.Flow
open Go

/-! ### Lines -/
def linR (l : List (List UInt8)) (s : List UInt8) : List UInt8 → List (List UInt8) × Bool
  | [] => ([], false)
  | c :: r => if c = 13 ∧ r.getD 0 0 = 10 then (if s = [] ∧ ¬ l = [] then (l, decide (r.length = 1)) else linR (l ++ [s]) [] (r.drop 1))
    else if c = 13 ∨ c = 10 then ([], false) else linR l (s ++ [c]) r
termination_by x => x.length
decreasing_by
  · simp [List.length_drop]; omega
  · simp
def splitX : List UInt8 → List (List UInt8)
  | [] => [[]]
  | c :: r => if c = 13 ∧ r.getD 0 0 = 10 then [] :: splitX (r.drop 1) else match splitX r with
    | [] => [[c]]
    | p :: ps => (c :: p) :: ps
termination_by x => x.length
decreasing_by
  · simp [List.length_drop]; omega
  · simp
theorem linR_hit {l : List (List UInt8)} {s r : List UInt8} {c : UInt8} (h : c = 13 ∧ r.getD 0 0 = 10) : linR l s (c :: r) = if s = [] ∧ ¬ l = [] then (l, decide (r.length = 1)) else linR (l ++ [s]) [] (r.drop 1) := by
  conv => lhs; unfold linR
  rw [if_pos h]
theorem linR_bad {l : List (List UInt8)} {s r : List UInt8} {c : UInt8} (h : ¬ (c = 13 ∧ r.getD 0 0 = 10)) (h2 : c = 13 ∨ c = 10) : linR l s (c :: r) = ([], false) := by
  conv => lhs; unfold linR
  rw [if_neg h, if_pos h2]
theorem linR_go {l : List (List UInt8)} {s r : List UInt8} {c : UInt8} (h2 : ¬ (c = 13 ∨ c = 10)) : linR l s (c :: r) = linR l (s ++ [c]) r := by
  conv => lhs; unfold linR
  rw [if_neg (fun q => h2 (.inl q.1)), if_neg h2]
theorem linR_nil {l : List (List UInt8)} {s : List UInt8} : linR l s [] = ([], false) := by unfold linR; rfl
theorem splitX_hit {r : List UInt8} {c : UInt8} (h : c = 13 ∧ r.getD 0 0 = 10) : splitX (c :: r) = [] :: splitX (r.drop 1) := by
  conv => lhs; unfold splitX
  rw [if_pos h]
theorem splitX_go {r : List UInt8} {c : UInt8} (h : ¬ (c = 13 ∧ r.getD 0 0 = 10)) : splitX (c :: r) = match splitX r with
    | [] => [[c]]
    | p :: ps => (c :: p) :: ps := by
  conv => lhs; unfold splitX
  rw [if_neg h]
theorem splitX_nil : splitX [] = [[]] := by unfold splitX; rfl
theorem splitX_cons : ∀ b : List UInt8, ∃ p ps, splitX b = p :: ps
  | [] => ⟨[], [], splitX_nil⟩
  | c :: r => by
    by_cases h : c = 13 ∧ r.getD 0 0 = 10
    · exact ⟨_, _, splitX_hit h⟩
    · obtain ⟨p, ps, e⟩ := splitX_cons r
      rw [splitX_go h, e]
      exact ⟨_, _, rfl⟩
theorem splitX_one {b : List UInt8} (h : splitX b = [[]]) : b = [] := by
  cases b with
  | nil => rfl
  | cons c r =>
    by_cases hc : c = 13 ∧ r.getD 0 0 = 10
    · rw [splitX_hit hc] at h
      obtain ⟨p, ps, e⟩ := splitX_cons (r.drop 1)
      rw [e] at h
      simp at h
    · rw [splitX_go hc] at h
      obtain ⟨p, ps, e⟩ := splitX_cons r
      rw [e] at h
      simp at h

theorem pre_crlf {c : UInt8} {r : List UInt8} : ([13, 10] : List UInt8).isPrefixOf (c :: r) = true ↔ (c = 13 ∧ r.getD 0 0 = 10) := by
  cases r with
  | nil => simp
  | cons d r =>
    simp
    constructor
    · rintro ⟨rfl, rfl⟩
      exact ⟨rfl, rfl⟩
    · rintro ⟨rfl, rfl⟩
      exact ⟨rfl, rfl⟩
theorem splitL_X : ∀ (n : Nat) (b : List UInt8), b.length ≤ n → splitL b crlf = splitX b
  | 0, b, h => by
    have : b = [] := List.length_eq_zero_iff.1 (by omega)
    subst this
    rw [splitX_nil, splitL_eq _ _ (by decide)]
    exact if_pos rfl
  | n + 1, [], _ => by
    rw [splitX_nil, splitL_eq _ _ (by decide)]
    exact if_pos rfl
  | n + 1, c :: r, h => by
    have hr := splitL_X n r (by simpa using h)
    rw [splitL_eq _ _ (by decide)]
    by_cases hc : c = 13 ∧ r.getD 0 0 = 10
    · have e : Lib.index (c :: r) crlf = 0 := by
        unfold Lib.index
        exact if_pos (pre_crlf.2 hc)
      rw [e, if_neg (by decide), splitX_hit hc]
      have hd := splitL_X n (r.drop 1) (by rw [List.length_drop]; simp at h; omega)
      show [] :: splitL ((c :: r).drop (0 + 2)) crlf = _
      rw [← hd]
      rfl
    · have e : Lib.index (c :: r) crlf = if Lib.index r crlf == -1 then -1 else Lib.index r crlf + 1 := by
        conv => lhs; unfold Lib.index
        exact if_neg (fun q => hc (pre_crlf.1 q))
      rw [splitX_go hc, ← hr, splitL_eq r _ (by decide), e]
      have hge := Lib.index_ge r crlf
      by_cases hi : Lib.index r crlf = -1
      · rw [hi]
        rfl
      · obtain ⟨i, hi2⟩ : ∃ i : Nat, Lib.index r crlf = i := ⟨(Lib.index r crlf).toNat, by omega⟩
        have e' : Lib.index (c :: r) crlf = i + 1 := by rw [e, hi2, if_neg (by simp)]
        rw [← e, e', hi2, if_neg (by omega), if_neg (by omega)]
        have e1 : ((i : Int) + 1).toNat = i + 1 := rfl
        rw [e1, Int.toNat_natCast]
        show (c :: r.take i) :: splitL ((c :: r).drop (i + 1 + 2)) crlf = (c :: r.take i) :: splitL (r.drop (i + 2)) crlf
        rw [show i + 1 + 2 = (i + 2) + 1 by omega, List.drop_succ_cons]

def cleanB (p : List UInt8) : Bool := p.all fun c => decide (¬ (c = 13 ∨ c = 10))
theorem clean_any : ∀ s : List UInt8, Lib.containsAny s crlf = !cleanB s := by
  have key : ∀ s : List UInt8, (0 ≤ Lib.indexAny s crlf) ↔ cleanB s = false := by
    intro s
    induction s with
    | nil => simp [Lib.indexAny, cleanB]
    | cons c s ih =>
      have hge := Lib.indexAny_ge crlf s
      unfold Lib.indexAny cleanB
      rw [List.all_cons]
      by_cases hc : c = 13 ∨ c = 10
      · rw [if_pos (by unfold crlf; simpa using hc), decide_eq_false (fun q => q hc)]
        simp
      · rw [if_neg (by unfold crlf; simpa using hc), decide_eq_true hc, Bool.true_and]
        show _ ↔ cleanB s = false
        rw [← ih]
        by_cases h : Lib.indexAny s crlf = -1
        · rw [h]
          decide
        · rw [if_neg (by simpa using h)]
          omega
  intro s
  unfold Lib.containsAny
  cases h : cleanB s with
  | true => exact decide_eq_false (fun q => by rw [(key s).1 q] at h; cases h)
  | false => exact decide_eq_true ((key s).2 h)

/-- The document's way, piece by piece. -/
def goP (l : List (List UInt8)) (s : List UInt8) : List (List UInt8) → List (List UInt8) × Bool
  | p :: q :: ps => if cleanB p = true then (if s ++ p = [] ∧ ¬ l = [] then (l, decide (q :: ps = [[]])) else goP (l ++ [s ++ p]) [] (q :: ps)) else ([], false)
  | _ => ([], false)
theorem linR_goP : ∀ (n : Nat) (b : List UInt8) (l : List (List UInt8)) (s : List UInt8), b.length ≤ n → linR l s b = goP l s (splitX b)
  | _, [], l, s, _ => by
    rw [linR_nil, splitX_nil]
    rfl
  | 0, c :: r, l, s, h => by simp at h
  | n + 1, c :: r, l, s, h => by
    by_cases hc : c = 13 ∧ r.getD 0 0 = 10
    · rw [linR_hit hc, splitX_hit hc]
      have ih := linR_goP n (r.drop 1) (l ++ [s]) [] (by rw [List.length_drop]; simp at h; omega)
      have h1 : decide (r.length = 1) = decide (splitX (r.drop 1) = [[]]) := by
        have hr : 0 < r.length := by
          cases r with
          | nil => simp at hc
          | cons => simp
        rw [decide_eq_decide]
        constructor
        · intro e
          rw [List.drop_eq_nil_of_le (by omega), splitX_nil]
        · intro e
          have := congrArg List.length (splitX_one e)
          rw [List.length_drop, List.length_nil] at this
          omega
      rw [h1, ih]
      obtain ⟨p, ps, e⟩ := splitX_cons (r.drop 1)
      rw [e]
      show _ = if cleanB [] = true then (if s ++ [] = [] ∧ ¬ l = [] then (l, decide (p :: ps = [[]])) else goP (l ++ [s ++ []]) [] (p :: ps)) else ([], false)
      rw [if_pos (show cleanB [] = true from rfl), List.append_nil]
    · rw [splitX_go hc]
      obtain ⟨p, ps, e⟩ := splitX_cons r
      by_cases h2 : c = 13 ∨ c = 10
      · rw [linR_bad hc h2, e]
        dsimp only
        cases ps with
        | nil => rfl
        | cons q ps =>
          have hcl : ¬ cleanB (c :: p) = true := by
            unfold cleanB
            rw [List.all_cons, decide_eq_false (fun q => q h2)]
            simp
          exact (if_neg hcl).symm
      · rw [linR_go h2, linR_goP n r l (s ++ [c]) (by simpa using h), e]
        dsimp only
        cases ps with
        | nil => rfl
        | cons q ps =>
          have hcl : cleanB (c :: p) = cleanB p := by
            unfold cleanB
            rw [List.all_cons, decide_eq_true h2, Bool.true_and]
          show (if cleanB p = true then (if (s ++ [c]) ++ p = [] ∧ ¬ l = [] then (l, decide (q :: ps = [[]])) else goP (l ++ [(s ++ [c]) ++ p]) [] (q :: ps)) else ([], false)) = if cleanB (c :: p) = true then (if s ++ (c :: p) = [] ∧ ¬ l = [] then (l, decide (q :: ps = [[]])) else goP (l ++ [s ++ (c :: p)]) [] (q :: ps)) else ([], false)
          rw [hcl, List.append_assoc]
          rfl

theorem split_app : ∀ (n : Nat) (x r : List UInt8), x.length ≤ n → splitX (x ++ 13 :: 10 :: r) = splitX x ++ splitX r
  | _, [], r, _ => by
    rw [splitX_nil]
    exact splitX_hit ⟨rfl, rfl⟩
  | 0, c :: x, r, h => by simp at h
  | n + 1, c :: x, r, h => by
    have hhead : (c = 13 ∧ (x ++ 13 :: 10 :: r).getD 0 0 = 10) ↔ (c = 13 ∧ x.getD 0 0 = 10) := by
      cases x with
      | nil => simp
      | cons d x => simp
    rw [List.cons_append]
    by_cases hc : c = 13 ∧ x.getD 0 0 = 10
    · rw [splitX_hit hc, splitX_hit (hhead.2 hc)]
      have hx : 0 < x.length := by
        cases x with
        | nil => simp at hc
        | cons => simp
      rw [List.drop_append_of_le_length (by omega), split_app n (x.drop 1) r (by rw [List.length_drop]; simp at h; omega)]
      rfl
    · rw [splitX_go hc, splitX_go (fun q => hc (hhead.1 q)), split_app n x r (by simpa using h)]
      obtain ⟨p, ps, e⟩ := splitX_cons x
      rw [e]
      rfl
def joinX : List (List UInt8) → List UInt8
  | [] => []
  | [p] => p
  | p :: q :: ps => p ++ 13 :: 10 :: joinX (q :: ps)
theorem join_split : ∀ (n : Nat) (b : List UInt8), b.length ≤ n → joinX (splitX b) = b
  | _, [], _ => by rw [splitX_nil]; rfl
  | 0, c :: r, h => by simp at h
  | n + 1, c :: r, h => by
    by_cases hc : c = 13 ∧ r.getD 0 0 = 10
    · rw [splitX_hit hc]
      have ih := join_split n (r.drop 1) (by rw [List.length_drop]; simp at h; omega)
      obtain ⟨p, ps, e⟩ := splitX_cons (r.drop 1)
      rw [e] at ih ⊢
      show 13 :: 10 :: joinX (p :: ps) = _
      rw [ih]
      cases r with
      | nil => simp at hc
      | cons d r =>
        have hd : d = 10 := hc.2
        rw [hc.1, hd]
        rfl
    · rw [splitX_go hc]
      have ih := join_split n r (by simpa using h)
      obtain ⟨p, ps, e⟩ := splitX_cons r
      rw [e] at ih ⊢
      dsimp only
      cases ps with
      | nil => exact congrArg (c :: ·) ih
      | cons q ps => exact congrArg (c :: ·) ih
theorem join_end : ∀ {ps : List (List UInt8)}, ¬ ps = [] → joinX (ps ++ [[], []]) = joinX ps ++ end4
  | [], h => absurd rfl h
  | [p], _ => rfl
  | p :: q :: ps, _ => by
    show p ++ 13 :: 10 :: joinX ((q :: ps) ++ [[], []]) = (p ++ 13 :: 10 :: joinX (q :: ps)) ++ end4
    rw [join_end (by simp), List.append_assoc]
    rfl

theorem goP_clean : ∀ {ps l : List (List UInt8)}, ¬ l = [] → ps.all cleanB = true → (ps.all (fun p => !p.isEmpty) = true → goP l [] (ps ++ [[], []]) = (l ++ ps, true)) ∧ (ps.all (fun p => !p.isEmpty) = false → (goP l [] (ps ++ [[], []])).2 = false)
  | [], l, hl, _ => ⟨fun _ => by
      show (if cleanB [] = true then (if [] ++ [] = [] ∧ ¬ l = [] then (l, decide ([[]] = [[]])) else goP (l ++ [[] ++ []]) [] [[]]) else ([], false)) = _
      rw [if_pos (show cleanB [] = true from rfl), if_pos ⟨rfl, hl⟩, List.append_nil]
      rfl, fun h => by cases h⟩
  | p :: ps, l, hl, hc => by
    rw [List.all_cons, Bool.and_eq_true] at hc
    obtain ⟨q, qs, e⟩ : ∃ q qs, ps ++ [[], []] = q :: qs := by
      cases ps with
      | nil => exact ⟨[], [[]], rfl⟩
      | cons q qs => exact ⟨q, qs ++ [[], []], rfl⟩
    have hstep : goP l [] ((p :: ps) ++ [[], []]) = if p = [] then (l, decide (q :: qs = [[]])) else goP (l ++ [p]) [] (ps ++ [[], []]) := by
      rw [List.cons_append, e]
      show (if cleanB p = true then (if [] ++ p = [] ∧ ¬ l = [] then (l, decide (q :: qs = [[]])) else goP (l ++ [[] ++ p]) [] (q :: qs)) else ([], false)) = _
      rw [if_pos hc.1, List.nil_append]
      by_cases hp : p = []
      · rw [if_pos ⟨hp, hl⟩, if_pos hp]
      · rw [if_neg (fun q => hp q.1), if_neg hp]
    have ih := goP_clean (ps := ps) (l := l ++ [p]) (by simp) hc.2
    rw [hstep, List.all_cons]
    by_cases hp : p = []
    · rw [if_pos hp]
      subst hp
      refine ⟨fun h => by simp at h, fun _ => ?_⟩
      refine decide_eq_false fun h => ?_
      have h2 := congrArg List.length (e.trans h)
      simp at h2
    · rw [if_neg hp]
      have hne : (!p.isEmpty) = true := by
        cases p with
        | nil => exact absurd rfl hp
        | cons => rfl
      rw [hne, Bool.true_and]
      refine ⟨fun h => ?_, ih.2⟩
      rw [ih.1 h, List.append_assoc]
      rfl
theorem goP_true : ∀ {ps l : List (List UInt8)} {s : List UInt8} {x : List (List UInt8)}, goP l s ps = (x, true) → ∃ ps', ps = ps' ++ [[], []] ∧ ps'.all cleanB = true ∧ (l = [] → ¬ ps' = [])
  | [], l, s, x, h => by cases h
  | [p], l, s, x, h => by cases h
  | p :: q :: ps, l, s, x, h => by
    have h : (if cleanB p = true then (if s ++ p = [] ∧ ¬ l = [] then (l, decide (q :: ps = [[]])) else goP (l ++ [s ++ p]) [] (q :: ps)) else ([], false)) = (x, true) := h
    by_cases hc : cleanB p = true
    · rw [if_pos hc] at h
      by_cases h1 : s ++ p = [] ∧ ¬ l = []
      · rw [if_pos h1] at h
        have h2 : q :: ps = [[]] := of_decide_eq_true (congrArg Prod.snd h)
        have h3 : p = [] := (List.append_eq_nil_iff.1 h1.1).2
        exact ⟨[], by rw [h2, h3]; rfl, rfl, fun e => absurd e h1.2⟩
      · rw [if_neg h1] at h
        obtain ⟨ps', e, h2, _⟩ := goP_true h
        exact ⟨p :: ps', by rw [e]; rfl, by rw [List.all_cons, hc, h2]; rfl, fun _ => by simp⟩
    · rw [if_neg hc] at h
      cases h

theorem sfx4 {x : List UInt8} : Lib.hasSuffix (x ++ end4) end4 = true := by
  unfold Lib.hasSuffix
  rw [List.isSuffixOf_iff_suffix]
  exact ⟨x, rfl⟩
/-- Both ways of taking lines. -/
theorem lines_both (b : List UInt8) (hb : b.length ≤ 8192) : match linP b with
    | some ls => ¬ ls = [] ∧ ((ls.drop 1).all (fun p => !p.isEmpty) = true → linR [] [] b = (ls, true)) ∧ ((ls.drop 1).all (fun p => !p.isEmpty) = false → (linR [] [] b).2 = false)
    | none => (linR [] [] b).2 = false := by
  have hgo := linR_goP _ b [] [] (Nat.le_refl _)
  rw [hgo]
  have hall : ∀ l : List (List UInt8), l.all (fun s => !Lib.containsAny s crlf) = l.all cleanB := fun l => by
    congr 1
    funext s
    rw [clean_any, Bool.not_not]
  by_cases hs : Lib.hasSuffix b end4 = true
  · obtain ⟨x, rfl⟩ : ∃ x, b = x ++ end4 := by
      unfold Lib.hasSuffix at hs
      rw [List.isSuffixOf_iff_suffix] at hs
      obtain ⟨x, h⟩ := hs
      exact ⟨x, h.symm⟩
    have ht : (x ++ end4).take ((x ++ end4).length - 4) = x := by
      rw [List.length_append, show x.length + end4.length - 4 = x.length from Nat.add_sub_cancel .., List.take_left]
    have hsp : splitX (x ++ end4) = splitX x ++ [[], []] := by
      have := split_app _ x [13, 10] (Nat.le_refl _)
      rw [show splitX [13, 10] = [[], []] by rw [splitX_hit ⟨rfl, rfl⟩]; exact congrArg ([] :: ·) splitX_nil] at this
      exact this
    rw [hsp]
    have hl : linP (x ++ end4) = if (splitX x).all cleanB = true then some (splitX x) else none := by
      unfold linP
      rw [if_pos ⟨hb, hs⟩, ht, splitL_X _ x (Nat.le_refl _), hall]
    rw [hl]
    obtain ⟨p, ps, e⟩ := splitX_cons x
    rw [e]
    by_cases hc : (p :: ps).all cleanB = true
    · rw [if_pos hc]
      dsimp only
      rw [List.all_cons, Bool.and_eq_true] at hc
      have hstep : goP [] [] ((p :: ps) ++ [[], []]) = goP [p] [] (ps ++ [[], []]) := by
        obtain ⟨q, qs, e⟩ : ∃ q qs, ps ++ [[], []] = q :: qs := by
          cases ps with
          | nil => exact ⟨[], [[]], rfl⟩
          | cons q qs => exact ⟨q, qs ++ [[], []], rfl⟩
        rw [List.cons_append, e]
        show (if cleanB p = true then (if [] ++ p = [] ∧ ¬ ([] : List (List UInt8)) = [] then ([], decide (q :: qs = [[]])) else goP ([] ++ [[] ++ p]) [] (q :: qs)) else ([], false)) = _
        rw [if_pos hc.1, if_neg (fun q => q.2 rfl)]
        rfl
      have h := goP_clean (ps := ps) (l := [p]) (by simp) hc.2
      rw [hstep]
      exact ⟨by simp, h.1, h.2⟩
    · rw [if_neg hc]
      dsimp only
      cases hg : goP [] [] ((p :: ps) ++ [[], []]) with
      | mk y ok =>
        cases ok with
        | false => rfl
        | true =>
          obtain ⟨ps', e2, h2, _⟩ := goP_true hg
          rw [List.append_cancel_right e2] at hc
          exact absurd h2 hc
  · have hl : linP b = none := if_neg fun q => hs q.2
    rw [hl]
    dsimp only
    cases hg : goP [] [] (splitX b) with
    | mk y ok =>
      cases ok with
      | false => rfl
      | true =>
        obtain ⟨ps', e2, h2, h3⟩ := goP_true hg
        have hj := join_split _ b (Nat.le_refl _)
        rw [e2, join_end (h3 rfl)] at hj
        rw [← hj] at hs
        exact absurd sfx4 hs

end Go.Proofs.YtghdgjabpdfaoaaDoor.Flow

/- REQ: headers (plain): both ways of reading them. -/
namespace Go.Proofs.YtghdgjabpdfaoaaDoor.Flow
open Go

abbrev Hv := List (List UInt8 × List UInt8)
/-- The headers' names and values. -/
def hdvs : List (List UInt8) → Option Hv
  | [] => some []
  | s :: r => if (hdrP s).2.2 = true then (hdvs r).map (((hdrP s).1, (hdrP s).2.1) :: ·) else none
def vof (k : List UInt8) (L : Hv) : List (List UInt8) := (L.filter fun p => decide (p.1 = k)).map (·.2)
theorem vof_cons (k : List UInt8) (p : List UInt8 × List UInt8) (L : Hv) : vof k (p :: L) = if p.1 = k then p.2 :: vof k L else vof k L := by
  unfold vof
  rw [List.filter_cons]
  by_cases h : p.1 = k
  · rw [if_pos (by simpa using h), if_pos h]
    rfl
  · rw [if_neg (by simpa using h), if_neg h]
theorem vof_app (k : List UInt8) (L M : Hv) : vof k (L ++ M) = vof k L ++ vof k M := by
  unfold vof
  rw [List.filter_append, List.map_append]
def addAll (hs : Hdl) (L : Hv) : Hdl := L.foldl (fun hs p => addH p.1 p.2 hs) hs
theorem hds_eq : ∀ (l : List (List UInt8)) (hs : Hdl), hdsP hs l = (hdvs l).map (addAll hs)
  | [], hs => rfl
  | s :: r, hs => by
    unfold hdsP hdvs
    by_cases h : (hdrP s).2.2 = true
    · rw [if_pos h, if_pos h, hds_eq r]
      cases hdvs r <;> rfl
    · rw [if_neg h, if_neg h]
      rfl
theorem get_add (k key v : List UInt8) : ∀ hs : Hdl, getH k (addH key v hs) = if key = k then getH k hs ++ [v] else getH k hs
  | [] => by
    unfold addH
    show (if key = k then [v] else getH k []) = _
    rfl
  | p :: r => by
    have ih := get_add k key v r
    unfold addH
    by_cases h : p.1 = key
    · rw [if_pos h]
      show (if p.1 = k then p.2 ++ [v] else getH k r) = if key = k then (if p.1 = k then p.2 else getH k r) ++ [v] else (if p.1 = k then p.2 else getH k r)
      rw [h]
      by_cases e : key = k
      · rw [if_pos e, if_pos e, if_pos e]
      · rw [if_neg e, if_neg e, if_neg e]
    · rw [if_neg h]
      show (if p.1 = k then p.2 else getH k (addH key v r)) = if key = k then (if p.1 = k then p.2 else getH k r) ++ [v] else (if p.1 = k then p.2 else getH k r)
      rw [ih]
      by_cases e : p.1 = k
      · rw [if_pos e, if_pos e, if_neg (fun q => h (e.trans q.symm))]
      · rw [if_neg e, if_neg e]
theorem get_all (k : List UInt8) : ∀ (L : Hv) (hs : Hdl), getH k (addAll hs L) = getH k hs ++ vof k L
  | [], hs => by simp [addAll, vof]
  | p :: L, hs => by
    show getH k (addAll (addH p.1 p.2 hs) L) = _
    rw [get_all k L, get_add, vof_cons]
    by_cases h : p.1 = k
    · rw [if_pos h, if_pos h, List.append_assoc]
      rfl
    · rw [if_neg h, if_neg h]

/-- Names that are all different, each with a value. -/
def NiceH (hs : Hdl) : Prop := ∀ p ∈ hs, getH p.1 hs = p.2 ∧ ¬ p.2 = []
theorem hasH_mem {k : List UInt8} {hs : Hdl} : hasH k hs = true ↔ ∃ p ∈ hs, p.1 = k := by
  unfold hasH
  rw [List.any_eq_true]
  constructor
  · rintro ⟨p, h1, h2⟩
    exact ⟨p, h1, of_decide_eq_true h2⟩
  · rintro ⟨p, h1, h2⟩
    exact ⟨p, h1, decide_eq_true h2⟩
theorem addH_mem2 {key v : List UInt8} : ∀ {hs : Hdl} {p : List UInt8 × List (List UInt8)}, p ∈ addH key v hs → p ∈ hs ∨ (p.1 = key ∧ ¬ p.2 = [])
  | [], p, h => by
    simp [addH] at h
    subst h
    exact .inr ⟨rfl, by simp⟩
  | q :: r, p, h => by
    unfold addH at h
    by_cases e : q.1 = key
    · rw [if_pos e] at h
      rcases List.mem_cons.1 h with rfl | h
      · exact .inr ⟨e, by simp⟩
      · exact .inl (by simp [h])
    · rw [if_neg e] at h
      rcases List.mem_cons.1 h with rfl | h
      · exact .inl (by simp)
      · rcases addH_mem2 h with h | h
        · exact .inl (by simp [h])
        · exact .inr h
def keysH (hs : Hdl) : List (List UInt8) := hs.map (·.1)
theorem keys_add {key v : List UInt8} : ∀ {hs : Hdl}, (keysH hs).Nodup → (keysH (addH key v hs)).Nodup ∧ ∀ k, k ∈ keysH (addH key v hs) → k ∈ keysH hs ∨ k = key
  | [], _ => ⟨by simp [addH, keysH], fun k hk => by simp [addH, keysH] at hk; exact .inr hk⟩
  | q :: r, h => by
    unfold addH
    by_cases e : q.1 = key
    · rw [if_pos e]
      exact ⟨h, fun k hk => .inl hk⟩
    · rw [if_neg e]
      have h' : q.1 ∉ keysH r ∧ (keysH r).Nodup := List.nodup_cons.1 h
      obtain ⟨h1, h2⟩ := keys_add (key := key) (v := v) h'.2
      refine ⟨List.nodup_cons.2 ⟨fun hm => ?_, h1⟩, fun k hk => ?_⟩
      · rcases h2 _ hm with h3 | h3
        · exact h'.1 h3
        · exact e h3
      · rcases List.mem_cons.1 hk with rfl | hk
        · exact .inl (List.mem_cons_self ..)
        · rcases h2 _ hk with h3 | h3
          · exact .inl (List.mem_cons_of_mem _ h3)
          · exact .inr h3
theorem get_of_mem {hs : Hdl} (h : (keysH hs).Nodup) : ∀ p ∈ hs, getH p.1 hs = p.2 := by
  induction hs with
  | nil => intro p hp; cases hp
  | cons q r ih =>
    have h' : q.1 ∉ keysH r ∧ (keysH r).Nodup := List.nodup_cons.1 h
    intro p hp
    unfold getH
    rcases List.mem_cons.1 hp with rfl | hp
    · exact if_pos rfl
    · rw [if_neg (fun e => h'.1 (by rw [e]; exact List.mem_map.2 ⟨p, hp, rfl⟩))]
      exact ih h'.2 p hp
theorem keys_all : ∀ (L : Hv) {hs : Hdl}, (keysH hs).Nodup → (∀ p ∈ hs, ¬ p.2 = []) → (keysH (addAll hs L)).Nodup ∧ ∀ p ∈ addAll hs L, ¬ p.2 = []
  | [], _, h, h2 => ⟨h, h2⟩
  | q :: L, hs, h, h2 => keys_all L (keys_add h).1 fun p hp => (addH_mem2 hp).elim (h2 p) fun q => q.2
theorem has_iff {hs : Hdl} (h : (keysH hs).Nodup) (h2 : ∀ p ∈ hs, ¬ p.2 = []) (k : List UInt8) : (∃ p ∈ hs, p.1 = k) ↔ ¬ getH k hs = [] := by
  constructor
  · rintro ⟨p, hp, rfl⟩
    rw [get_of_mem h p hp]
    exact h2 p hp
  · intro hk
    cases hh : hasH k hs with
    | true => exact hasH_mem.1 hh
    | false => exact absurd (mget_miss hh).2 hk

/-- Are the headers what they must be? By values. -/
def goodL (L : Hv) : Prop := (vof hostK L).length = 1 ∧ ¬ [] ∈ vof hostK L ∧ (∀ v ∈ vof clenK L, v = [48]) ∧ (vof clenK L).length ≤ 1 ∧ vof tencK L = []
instance (L : Hv) : Decidable (goodL L) := by unfold goodL; infer_instance
theorem right_good (L : Hv) : rightH (addAll [] L) = decide (goodL L) := by
  obtain ⟨h1, h2⟩ := keys_all L (hs := []) List.nodup_nil (fun p hp => by cases hp)
  have hg : ∀ k, getH k (addAll [] L) = vof k L := fun k => by rw [get_all]; rfl
  have hh := fun k => has_iff h1 h2 k
  have hm := get_of_mem h1
  simp only [hg] at hh hm
  unfold rightH
  rw [hg]
  generalize addAll [] L = hs at *
  rw [Bool.eq_iff_iff, Bool.and_eq_true, decide_eq_true_eq, decide_eq_true_eq, List.all_eq_true]
  have d1 : ¬ clenK = hostK := by decide
  have d2 : ¬ tencK = hostK := by decide
  have d3 : ¬ tencK = clenK := by decide
  constructor
  · rintro ⟨hall, hone⟩
    refine ⟨hone, ?_, ?_, ?_, ?_⟩
    · obtain ⟨p, hp, e⟩ := (hh hostK).2 (fun q => by rw [q] at hone; cases hone)
      have := hall p hp
      rw [okH_host e, decide_eq_true_eq] at this
      rw [← hm p hp, e] at this
      intro hin
      obtain ⟨v, hv⟩ : ∃ v, vof hostK L = [v] := List.length_eq_one_iff.1 hone
      rw [hv] at this hin
      simp at this hin
      exact this hin
    · intro v hv
      obtain ⟨p, hp, e⟩ := (hh clenK).2 (fun q => by rw [q] at hv; cases hv)
      have := hall p hp
      rw [okH_clen (by rw [e]; exact d1) e, Bool.and_eq_true, List.all_eq_true] at this
      rw [← hm p hp, e] at this
      exact of_decide_eq_true (this.1 v hv)
    · by_cases hc : vof clenK L = []
      · rw [hc]
        exact Nat.zero_le _
      · obtain ⟨p, hp, e⟩ := (hh clenK).2 hc
        have := hall p hp
        rw [okH_clen (by rw [e]; exact d1) e, Bool.and_eq_true, decide_eq_true_eq] at this
        rw [← hm p hp, e] at this
        omega
    · by_cases hc : vof tencK L = []
      · exact hc
      · obtain ⟨p, hp, e⟩ := (hh tencK).2 hc
        have := hall p hp
        rw [okH_oth (by rw [e]; exact d2) (by rw [e]; exact d3), decide_eq_true_eq] at this
        exact absurd e this
  · rintro ⟨g1, g2, g3, g4, g5⟩
    refine ⟨fun p hp => ?_, g1⟩
    have hmp := hm p hp
    have hne := h2 p hp
    by_cases e1 : p.1 = hostK
    · rw [okH_host e1, decide_eq_true_eq, ← hmp, e1]
      refine ⟨g1, fun q => g2 ?_⟩
      obtain ⟨v, hv⟩ : ∃ v, vof hostK L = [v] := List.length_eq_one_iff.1 g1
      rw [hv] at q ⊢
      simp at q ⊢
      exact q
    · by_cases e2 : p.1 = clenK
      · rw [okH_clen e1 e2, Bool.and_eq_true, decide_eq_true_eq, ← hmp, e2, List.all_eq_true]
        rw [← hmp, e2] at hne
        refine ⟨fun v hv => decide_eq_true (g3 v hv), ?_⟩
        have : 0 < (vof clenK L).length := List.length_pos_iff.2 hne
        omega
      · rw [okH_oth e1 e2, decide_eq_true_eq]
        intro e3
        rw [← hmp, e3, g5] at hne
        exact hne rfl

/-! ### The whole -/
def ansR (mt tg : List UInt8) (L : Hv) : Rq := (mt, tg.take (fndN 63 tg), accV (vof aceK L), (tagsA (vof inmK L)).2, (tagsA (vof inmK L)).1)
def parR (b : List UInt8) : Option Rq :=
  if (linR [] [] b).2 = true ∧ b.length ≤ 8192 then
    if (firP ((linR [] [] b).1.getD 0 [])).2.2 = true then
      match hdvs ((linR [] [] b).1.drop 1) with
      | some L => if goodL L then some (ansR (firP ((linR [] [] b).1.getD 0 [])).1 (firP ((linR [] [] b).1.getD 0 [])).2.1 L) else none
      | none => none
    else none
  else none
theorem hdr_nil : (hdrP []).2.2 = false := by decide +kernel
theorem hdvs_bad : ∀ {l : List (List UInt8)}, l.all (fun p => !p.isEmpty) = false → hdvs l = none
  | [], h => by cases h
  | s :: r, h => by
    unfold hdvs
    rw [List.all_cons, Bool.and_eq_false_iff] at h
    by_cases hs : s = []
    · subst hs
      rw [if_neg (by rw [hdr_nil]; exact Bool.false_ne_true)]
    · have h' : r.all (fun p => !p.isEmpty) = false := by
        rcases h with h | h
        · cases s with
          | nil => exact absurd rfl hs
          | cons => cases h
        · exact h
      rw [hdvs_bad h']
      split <;> rfl
theorem path_cut (tg : List UInt8) : (Lib.cut tg [63]).1 = tg.take (fndN 63 tg) := by
  rw [cut_one]
  by_cases h : fndN 63 tg < tg.length
  · rw [if_pos h]
  · rw [if_neg h]
    show tg = tg.take (fndN 63 tg)
    exact (List.take_of_length_le (by omega)).symm
theorem par_both (b : List UInt8) : parP b = parR b := by
  unfold parP parR
  by_cases hb : b.length ≤ 8192
  · have h := lines_both b hb
    cases hl : linP b with
    | none =>
      rw [hl] at h
      rw [if_neg (fun q => by rw [h] at q; cases q.1)]
    | some ls =>
      rw [hl] at h
      obtain ⟨h1, h2, h3⟩ := h
      dsimp only
      rw [hds_eq]
      cases ha : (ls.drop 1).all (fun p => !p.isEmpty) with
      | true =>
        rw [h2 ha]
        have hok : (ls, true).2 = true ∧ b.length ≤ 8192 := ⟨rfl, hb⟩
        by_cases hf : (firP (ls.getD 0 [])).2.2 = true
        · rw [if_pos hf, if_pos hok]
          dsimp only
          rw [if_pos hf]
          cases hv : hdvs (ls.drop 1) with
          | none => rfl
          | some L =>
            show (if rightH (addAll [] L) = true then some ((firP (ls.getD 0 [])).1, (Lib.cut (firP (ls.getD 0 [])).2.1 [63]).1, accV (getH aceK (addAll [] L)), (tagsA (getH inmK (addAll [] L))).2, (tagsA (getH inmK (addAll [] L))).1) else none) = _
            rw [right_good, path_cut, get_all, get_all]
            by_cases hg : goodL L
            · rw [if_pos (decide_eq_true hg)]
              dsimp only
              rw [if_pos hg]
              rfl
            · rw [if_neg (by rw [decide_eq_false hg]; exact Bool.false_ne_true)]
              dsimp only
              rw [if_neg hg]
        · rw [if_neg hf, if_pos hok]
          dsimp only
          rw [if_neg hf]
      | false =>
        have hno : ¬ ((linR [] [] b).2 = true ∧ b.length ≤ 8192) := fun q => by rw [h3 ha] at q; cases q.1
        rw [hdvs_bad ha, if_neg hno]
        by_cases hf : (firP (ls.getD 0 [])).2.2 = true
        · rw [if_pos hf]
          rfl
        · rw [if_neg hf]
  · have : linP b = none := if_neg fun q => hb q.1
    rw [this, if_neg (fun q => hb q.2)]

end Go.Proofs.YtghdgjabpdfaoaaDoor.Flow

/- REQ: the document's: lines, the first line. -/
namespace Go.Proofs.YtghdgjabpdfaoaaDoor.Flow
open Go

theorem lin_at {b : List UInt8} {l : List (List UInt8)} {s : List UInt8} {i : Nat} (h : i < b.length) :
    (b.getD i 0 = 13 ∧ b.getD (i + 1) 0 = 10 → linR l s (b.drop i) = if s = [] ∧ ¬ l = [] then (l, decide (i + 2 = b.length)) else linR (l ++ [s]) [] (b.drop (i + 2))) ∧
    (¬ (b.getD i 0 = 13 ∧ b.getD (i + 1) 0 = 10) → (b.getD i 0 = 13 ∨ b.getD i 0 = 10) → linR l s (b.drop i) = ([], false)) ∧
    (¬ (b.getD i 0 = 13 ∨ b.getD i 0 = 10) → linR l s (b.drop i) = linR l (s ++ [b.getD i 0]) (b.drop (i + 1))) := by
  have e : b.drop i = b.getD i 0 :: b.drop (i + 1) := by
    rw [List.drop_eq_getElem_cons h]
    congr 1
    simp [List.getD_eq_getElem?_getD, h]
  have e1 : (b.drop (i + 1)).getD 0 0 = b.getD (i + 1) 0 := by rw [dropD]
  rw [e]
  refine ⟨fun q => ?_, fun q1 q2 => ?_, fun q => ?_⟩
  · rw [linR_hit (by rw [e1]; exact q), List.drop_drop, List.length_drop]
    have : decide (b.length - (i + 1) = 1) = decide (i + 2 = b.length) := by
      rw [decide_eq_decide]
      omega
    rw [this]
  · exact linR_bad (by rw [e1]; exact q1) q2
  · exact linR_go q

theorem oneB (b : List UInt8) (i : Nat) (h : i < b.length) : bytesOf (((i : Int) + 1).toNat - (i : Int).toNat) (fun j => bytesF b ((i : Int).toNat + j)) = [b.getD i 0] := by
  have := bytesOf_sub b i 1 (by omega)
  rw [show ((i : Int) + 1).toNat - (i : Int).toNat = 1 by omega, Int.toNat_natCast, this]
  rw [List.drop_eq_getElem_cons h, List.take_succ_cons, List.take_zero]
  simp [List.getD_eq_getElem?_getD, h]

set_option maxRecDepth 100000 in
set_option maxHeartbeats 4000000 in
theorem rlines_ctr (b : List UInt8) (hb : b.length ≤ 1000000) : Ctr Tryd.prog 46 [.sl 1 b.length (bytesF b)] (lsD (linR [] [] b)) := by
  refine r_fun Tryd.func46 rfl Tryd.ntmps46 Tryd.results46 rfl rfl fun X hL hX => ?_
  repeat' (first
    | with_reducible (first | refine t_seq ?_ | refine t_region ?_ | refine c_nil ?_ | refine n_then ?_ | refine t_ret ?_ | refine t_skip ?_ | refine t_exit ?_ | refine t_block ?_ | refine n_block ?_ | refine e_then ?_ | refine x_then ?_ | refine x_block ?_ | refine t_draw ?_)
    | refine r_val rfl rfl True.intro ?_ | refine r_gskip rfl rfl rfl ?_ | refine r_gskip2 rfl rfl rfl ?_ | refine r_gval rfl rfl rfl rfl True.intro ?_
    | refine t_true rfl ?_ | refine t_false rfl ?_
    | ((first | refine t_cond_d rfl ?_ ?_ | refine t_cond_i rfl ?_ ?_ | refine t_cond_j rfl ?_ ?_ | refine t_cond_s rfl ?_ ?_ | refine t_cond_n rfl ?_ ?_ | refine t_cond rfl ?_ ?_ | refine c_split_d rfl rfl ?_ ?_ | refine c_split_i rfl rfl ?_ ?_ | refine c_split_j rfl rfl ?_ ?_ | refine c_split_s rfl rfl ?_ ?_ | refine c_split_n rfl rfl ?_ ?_) <;> intro <;> try (first | (rename_i hz; exact Bool.noConfusion (show true = false from hz)) | (rename_i hz; exact Bool.noConfusion (show false = true from hz)) | (exfalso; omega)))
    | ((first | refine r_val rfl rfl ?_ ?_ | refine r_gval rfl rfl rfl rfl ?_ ?_ | refine r_obj rfl rfl ?_ ?_ | refine r_sto rfl ?_ ?_ | refine r_gobj rfl rfl rfl rfl ?_ ?_); focus (first | omega | exact Nat.le_of_ble_eq_true rfl | (simp only [wrap_u8, IntKind.wrap_i64, IntKind.wrap_i32, wrap_u32', wrap_u64', InI]; (repeat' refine And.intro ?_ ?_) <;> omega) | ((repeat' refine And.intro ?_ ?_) <;> first | omega | rfl | exact Nat.le_refl _ | exact Nat.le_of_ble_eq_true rfl | exact bytesF_one _) | (simp_all; done) | (simp_all; omega)))
    | refine e_hit rfl ?_ | refine e_miss rfl ?_
    | with_reducible refine ⟨by kernel_rfl, ?_⟩ | ((with_reducible refine c_grd ?_); (fail_if_success (refine c_lit true rfl rfl rfl ?_)); (fail_if_success (refine c_lit false rfl rfl rfl ?_)); refine c_split rfl rfl (fun _ => ?_) (fun _ => ?_)))
  refine T.adopt 4 4 9 1 (wxF []) rfl rfl ?_
  refine T.loop hL (fun x : List (List UInt8) × List UInt8 × Nat => [(0, .sl 1 b.length (bytesF b)), (4, .gs 4 1 x.1.length (wxF x.1)), (5, .s x.2.1), (6, .i .i64 x.2.2)]) (fun x => [(4, .row 9 1 x.1.length)])
    (fun x => x.2.2 ≤ b.length ∧ linR x.1 x.2.1 (b.drop x.2.2) = linR [] [] b ∧ x.1.length ≤ x.2.2 ∧ x.2.1.length ≤ x.2.2) (fun x => b.length - x.2.2) ([], [], 0) ⟨Nat.zero_le _, rfl, Nat.le_refl _, Nat.le_refl _⟩
    ⟨⟨rfl, rfl, rfl, rfl, trivial⟩, ⟨rfl, trivial⟩, rfl, fun q hq => by rw [hX] at hq; simp at hq⟩ ?_
  rintro ⟨l, s, i⟩ ⟨hi, hI, hn, hsn⟩
  dsimp only at hi hI hn hsn ⊢
  rw [← hI]
  by_cases hil : i < b.length
  · obtain ⟨k1, k2, k3⟩ := lin_at (l := l) (s := s) hil
    have hnat : (i : Int).toNat = i := Int.toNat_natCast i
    have hnat1 : ((i : Int) + 1).toNat = i + 1 := rfl
    have b1 := byteN (b.getD i 0) 13
    have b2 := byteN (b.getD i 0) 10
    have b3 := byteN (b.getD (i + 1) 0) 10
    have g1 : (((13 : UInt8).toNat : Nat) : Int) = 13 := rfl
    have g2 : (((10 : UInt8).toNat : Nat) : Int) = 10 := rfl
    rw [g1] at b1
    rw [g2] at b2 b3
    have r1 : (((b.getD (i : Int).toNat 0).toNat : Nat) : Int) = ((b.getD i 0).toNat : Int) := rfl
    have r2 : (((b.getD ((i : Int) + 1).toNat 0).toNat : Nat) : Int) = ((b.getD (i + 1) 0).toNat : Int) := rfl
    by_cases hlast : i + 1 < b.length
    · by_cases hc : b.getD i 0 = 13 ∧ b.getD (i + 1) 0 = 10
      · have h13 := b1.1 hc.1
        have h10 := b3.1 hc.2
        rw [k1 hc]
        clear k1 k2 k3 b1 b2 b3 hI
        by_cases hs : s = [] ∧ ¬ l = []
        · rw [if_pos hs]
          obtain ⟨rfl, hl⟩ := hs
          have hpos : 0 < l.length := List.length_pos_iff.2 hl
          by_cases he : i + 2 = b.length
          · rw [decide_eq_true he]
            repeat' (first
              | with_reducible (first | refine t_seq ?_ | refine t_region ?_ | refine c_nil ?_ | refine n_then ?_ | refine t_ret ?_ | refine t_skip ?_ | refine t_exit ?_ | refine t_block ?_ | refine n_block ?_ | refine e_then ?_ | refine x_then ?_ | refine x_block ?_ | refine t_draw ?_)
              | refine r_val rfl rfl True.intro ?_ | refine r_gskip rfl rfl rfl ?_ | refine r_gskip2 rfl rfl rfl ?_ | refine r_gval rfl rfl rfl rfl True.intro ?_
              | refine t_true rfl ?_ | refine t_false rfl ?_
              | ((first | refine t_cond_d rfl ?_ ?_ | refine t_cond_i rfl ?_ ?_ | refine t_cond_j rfl ?_ ?_ | refine t_cond_s rfl ?_ ?_ | refine t_cond_n rfl ?_ ?_ | refine t_cond rfl ?_ ?_ | refine c_split_d rfl rfl ?_ ?_ | refine c_split_i rfl rfl ?_ ?_ | refine c_split_j rfl rfl ?_ ?_ | refine c_split_s rfl rfl ?_ ?_ | refine c_split_n rfl rfl ?_ ?_) <;> intro <;> try (first | (rename_i hz; exact Bool.noConfusion (show true = false from hz)) | (rename_i hz; exact Bool.noConfusion (show false = true from hz)) | (exfalso; omega)))
              | ((first | refine r_val rfl rfl ?_ ?_ | refine r_gval rfl rfl rfl rfl ?_ ?_ | refine r_obj rfl rfl ?_ ?_ | refine r_sto rfl ?_ ?_ | refine r_gobj rfl rfl rfl rfl ?_ ?_); focus (first | omega | exact Nat.le_of_ble_eq_true rfl | (simp only [wrap_u8, IntKind.wrap_i64, IntKind.wrap_i32, wrap_u32', wrap_u64', InI]; (repeat' refine And.intro ?_ ?_) <;> omega) | ((repeat' refine And.intro ?_ ?_) <;> first | omega | rfl | exact Nat.le_refl _ | exact Nat.le_of_ble_eq_true rfl | exact bytesF_one _) | (simp_all; done) | (simp_all; omega)))
              | refine e_hit rfl ?_ | refine e_miss rfl ?_
              | with_reducible refine ⟨by kernel_rfl, ?_⟩ | refine x_endw rfl ?_ | refine n_endw rfl ?_ | ((with_reducible refine c_grd ?_); (fail_if_success (refine c_lit true rfl rfl rfl ?_)); (fail_if_success (refine c_lit false rfl rfl rfl ?_)); refine c_split rfl rfl (fun _ => ?_) (fun _ => ?_)))
            all_goals exact .tu2 (.refl _) (.of_eq (congrArg D.b (by rw [beq_iff_eq]; omega)))
          · rw [decide_eq_false he]
            repeat' (first
              | with_reducible (first | refine t_seq ?_ | refine t_region ?_ | refine c_nil ?_ | refine n_then ?_ | refine t_ret ?_ | refine t_skip ?_ | refine t_exit ?_ | refine t_block ?_ | refine n_block ?_ | refine e_then ?_ | refine x_then ?_ | refine x_block ?_ | refine t_draw ?_)
              | refine r_val rfl rfl True.intro ?_ | refine r_gskip rfl rfl rfl ?_ | refine r_gskip2 rfl rfl rfl ?_ | refine r_gval rfl rfl rfl rfl True.intro ?_
              | refine t_true rfl ?_ | refine t_false rfl ?_
              | ((first | refine t_cond_d rfl ?_ ?_ | refine t_cond_i rfl ?_ ?_ | refine t_cond_j rfl ?_ ?_ | refine t_cond_s rfl ?_ ?_ | refine t_cond_n rfl ?_ ?_ | refine t_cond rfl ?_ ?_ | refine c_split_d rfl rfl ?_ ?_ | refine c_split_i rfl rfl ?_ ?_ | refine c_split_j rfl rfl ?_ ?_ | refine c_split_s rfl rfl ?_ ?_ | refine c_split_n rfl rfl ?_ ?_) <;> intro <;> try (first | (rename_i hz; exact Bool.noConfusion (show true = false from hz)) | (rename_i hz; exact Bool.noConfusion (show false = true from hz)) | (exfalso; omega)))
              | ((first | refine r_val rfl rfl ?_ ?_ | refine r_gval rfl rfl rfl rfl ?_ ?_ | refine r_obj rfl rfl ?_ ?_ | refine r_sto rfl ?_ ?_ | refine r_gobj rfl rfl rfl rfl ?_ ?_); focus (first | omega | exact Nat.le_of_ble_eq_true rfl | (simp only [wrap_u8, IntKind.wrap_i64, IntKind.wrap_i32, wrap_u32', wrap_u64', InI]; (repeat' refine And.intro ?_ ?_) <;> omega) | ((repeat' refine And.intro ?_ ?_) <;> first | omega | rfl | exact Nat.le_refl _ | exact Nat.le_of_ble_eq_true rfl | exact bytesF_one _) | (simp_all; done) | (simp_all; omega)))
              | refine e_hit rfl ?_ | refine e_miss rfl ?_
              | with_reducible refine ⟨by kernel_rfl, ?_⟩ | refine x_endw rfl ?_ | refine n_endw rfl ?_ | ((with_reducible refine c_grd ?_); (fail_if_success (refine c_lit true rfl rfl rfl ?_)); (fail_if_success (refine c_lit false rfl rfl rfl ?_)); refine c_split rfl rfl (fun _ => ?_) (fun _ => ?_)))
            all_goals exact .tu2 (.refl _) (.of_eq (congrArg D.b (by rw [beq_eq_false_iff_ne]; omega)))
        · rw [if_neg hs]
          have hcat := catF_wx l s (chunk 1 [D.s s]) rfl
          have hB : (l ++ [s]).length = l.length + 1 := by simp
          by_cases hs0 : s = []
          · have hl0 : l = [] := by
              by_cases h : l = []
              · exact h
              · exact absurd ⟨hs0, h⟩ hs
            subst hs0 hl0
            repeat' (first
              | with_reducible (first | refine t_seq ?_ | refine t_region ?_ | refine c_nil ?_ | refine n_then ?_ | refine t_ret ?_ | refine t_skip ?_ | refine t_exit ?_ | refine t_block ?_ | refine n_block ?_ | refine e_then ?_ | refine x_then ?_ | refine x_block ?_ | refine t_draw ?_)
              | refine r_val rfl rfl True.intro ?_ | refine r_gskip rfl rfl rfl ?_ | refine r_gskip2 rfl rfl rfl ?_ | refine r_gval rfl rfl rfl rfl True.intro ?_
              | refine t_true rfl ?_ | refine t_false rfl ?_
              | ((first | refine t_cond_d rfl ?_ ?_ | refine t_cond_i rfl ?_ ?_ | refine t_cond_j rfl ?_ ?_ | refine t_cond_s rfl ?_ ?_ | refine t_cond_n rfl ?_ ?_ | refine t_cond rfl ?_ ?_ | refine c_split_d rfl rfl ?_ ?_ | refine c_split_i rfl rfl ?_ ?_ | refine c_split_j rfl rfl ?_ ?_ | refine c_split_s rfl rfl ?_ ?_ | refine c_split_n rfl rfl ?_ ?_) <;> intro <;> try (first | (rename_i hz; exact Bool.noConfusion (show true = false from hz)) | (rename_i hz; exact Bool.noConfusion (show false = true from hz)) | (exfalso; omega)))
              | ((first | refine r_val rfl rfl ?_ ?_ | refine r_gval rfl rfl rfl rfl ?_ ?_ | refine r_obj rfl rfl ?_ ?_ | refine r_sto rfl ?_ ?_ | refine r_gobj rfl rfl rfl rfl ?_ ?_); focus (first | omega | exact Nat.le_of_ble_eq_true rfl | (simp only [wrap_u8, IntKind.wrap_i64, IntKind.wrap_i32, wrap_u32', wrap_u64', InI]; (repeat' refine And.intro ?_ ?_) <;> omega) | ((repeat' refine And.intro ?_ ?_) <;> first | omega | rfl | exact Nat.le_refl _ | exact Nat.le_of_ble_eq_true rfl | exact bytesF_one _) | (simp_all; done) | (simp_all; omega)))
              | refine e_hit rfl ?_ | refine e_miss rfl ?_
              | with_reducible refine ⟨by kernel_rfl, ?_⟩ | refine x_endw rfl ?_ | refine n_endw rfl ?_ | ((with_reducible refine c_grd ?_); (fail_if_success (refine c_lit true rfl rfl rfl ?_)); (fail_if_success (refine c_lit false rfl rfl rfl ?_)); refine c_split rfl rfl (fun _ => ?_) (fun _ => ?_)))
            all_goals exact ⟨([[]], [], i + 2), ⟨by dsimp only; omega, rfl, by dsimp only; simp, by dsimp only; simp⟩, by dsimp only; omega, ⟨rfl, congrArg (D.gs 4 1 1) hcat, rfl, congrArg (D.i .i64) (by dsimp only; omega), trivial⟩, ⟨rfl, trivial⟩, rfl, fun q hq => by rw [hX] at hq; simp at hq⟩
          · have hs0' : ¬ s = (ByteArray.mk #[]).data.toList := hs0
            repeat' (first
              | with_reducible (first | refine t_seq ?_ | refine t_region ?_ | refine c_nil ?_ | refine n_then ?_ | refine t_ret ?_ | refine t_skip ?_ | refine t_exit ?_ | refine t_block ?_ | refine n_block ?_ | refine e_then ?_ | refine x_then ?_ | refine x_block ?_ | refine t_draw ?_)
              | refine r_val rfl rfl True.intro ?_ | refine r_gskip rfl rfl rfl ?_ | refine r_gskip2 rfl rfl rfl ?_ | refine r_gval rfl rfl rfl rfl True.intro ?_
              | refine t_true rfl ?_ | refine t_false rfl ?_
              | ((first | refine t_cond_d rfl ?_ ?_ | refine t_cond_i rfl ?_ ?_ | refine t_cond_j rfl ?_ ?_ | refine t_cond_s rfl ?_ ?_ | refine t_cond_n rfl ?_ ?_ | refine t_cond rfl ?_ ?_ | refine c_split_d rfl rfl ?_ ?_ | refine c_split_i rfl rfl ?_ ?_ | refine c_split_j rfl rfl ?_ ?_ | refine c_split_s rfl rfl ?_ ?_ | refine c_split_n rfl rfl ?_ ?_) <;> intro <;> try (first | (rename_i hz; exact Bool.noConfusion (show true = false from hz)) | (rename_i hz; exact Bool.noConfusion (show false = true from hz)) | (exfalso; omega)))
              | ((first | refine r_val rfl rfl ?_ ?_ | refine r_gval rfl rfl rfl rfl ?_ ?_ | refine r_obj rfl rfl ?_ ?_ | refine r_sto rfl ?_ ?_ | refine r_gobj rfl rfl rfl rfl ?_ ?_); focus (first | omega | exact Nat.le_of_ble_eq_true rfl | (simp only [wrap_u8, IntKind.wrap_i64, IntKind.wrap_i32, wrap_u32', wrap_u64', InI]; (repeat' refine And.intro ?_ ?_) <;> omega) | ((repeat' refine And.intro ?_ ?_) <;> first | omega | rfl | exact Nat.le_refl _ | exact Nat.le_of_ble_eq_true rfl | exact bytesF_one _) | (simp_all; done) | (simp_all; omega)))
              | refine e_hit rfl ?_ | refine e_miss rfl ?_
              | with_reducible refine ⟨by kernel_rfl, ?_⟩ | refine x_endw rfl ?_ | refine n_endw rfl ?_ | ((with_reducible refine c_grd ?_); (fail_if_success (refine c_lit true rfl rfl rfl ?_)); (fail_if_success (refine c_lit false rfl rfl rfl ?_)); refine c_split rfl rfl (fun _ => ?_) (fun _ => ?_)))
            all_goals first
              | (exfalso; exact hs0' ‹s = (ByteArray.mk #[]).data.toList›)
              | exact ⟨(l ++ [s], [], i + 2), ⟨by dsimp only; omega, rfl, by dsimp only; rw [hB]; omega, by dsimp only; simp⟩, by dsimp only; omega, ⟨rfl, (by
                  show D.gs 4 1 (l.length + 1) _ = D.gs 4 1 (l ++ [s]).length _
                  rw [hB, ← hcat]), rfl, congrArg (D.i .i64) (by dsimp only; omega), trivial⟩, ⟨(by
                  show _ = some (Own.row 9 1 (l ++ [s]).length)
                  rw [hB]
                  rfl), trivial⟩, rfl, fun q hq => by rw [hX] at hq; simp at hq⟩
      · have hnc : ¬ (((b.getD i 0).toNat : Int) = 13 ∧ ((b.getD (i + 1) 0).toNat : Int) = 10) := fun q => hc ⟨b1.2 q.1, b3.2 q.2⟩
        by_cases h2 : b.getD i 0 = 13 ∨ b.getD i 0 = 10
        · have h2' : ((b.getD i 0).toNat : Int) = 13 ∨ ((b.getD i 0).toNat : Int) = 10 := h2.imp b1.1 b2.1
          rw [k2 hc h2]
          clear k1 k2 k3 b1 b2 b3 hI
          repeat' (first
            | with_reducible (first | refine t_seq ?_ | refine t_region ?_ | refine c_nil ?_ | refine n_then ?_ | refine t_ret ?_ | refine t_skip ?_ | refine t_exit ?_ | refine t_block ?_ | refine n_block ?_ | refine e_then ?_ | refine x_then ?_ | refine x_block ?_ | refine t_draw ?_)
            | refine r_val rfl rfl True.intro ?_ | refine r_gskip rfl rfl rfl ?_ | refine r_gskip2 rfl rfl rfl ?_ | refine r_gval rfl rfl rfl rfl True.intro ?_
            | refine t_true rfl ?_ | refine t_false rfl ?_
            | ((first | refine t_cond_d rfl ?_ ?_ | refine t_cond_i rfl ?_ ?_ | refine t_cond_j rfl ?_ ?_ | refine t_cond_s rfl ?_ ?_ | refine t_cond_n rfl ?_ ?_ | refine t_cond rfl ?_ ?_ | refine c_split_d rfl rfl ?_ ?_ | refine c_split_i rfl rfl ?_ ?_ | refine c_split_j rfl rfl ?_ ?_ | refine c_split_s rfl rfl ?_ ?_ | refine c_split_n rfl rfl ?_ ?_) <;> intro <;> try (first | (rename_i hz; exact Bool.noConfusion (show true = false from hz)) | (rename_i hz; exact Bool.noConfusion (show false = true from hz)) | (exfalso; omega)))
            | ((first | refine r_val rfl rfl ?_ ?_ | refine r_gval rfl rfl rfl rfl ?_ ?_ | refine r_obj rfl rfl ?_ ?_ | refine r_sto rfl ?_ ?_ | refine r_gobj rfl rfl rfl rfl ?_ ?_); focus (first | omega | exact Nat.le_of_ble_eq_true rfl | (simp only [wrap_u8, IntKind.wrap_i64, IntKind.wrap_i32, wrap_u32', wrap_u64', InI]; (repeat' refine And.intro ?_ ?_) <;> omega) | ((repeat' refine And.intro ?_ ?_) <;> first | omega | rfl | exact Nat.le_refl _ | exact Nat.le_of_ble_eq_true rfl | exact bytesF_one _) | (simp_all; done) | (simp_all; omega)))
            | refine e_hit rfl ?_ | refine e_miss rfl ?_
            | with_reducible refine ⟨by kernel_rfl, ?_⟩ | refine x_endw rfl ?_ | refine n_endw rfl ?_ | ((with_reducible refine c_grd ?_); (fail_if_success (refine c_lit true rfl rfl rfl ?_)); (fail_if_success (refine c_lit false rfl rfl rfl ?_)); refine c_split rfl rfl (fun _ => ?_) (fun _ => ?_)))
          all_goals exact .tu2 (.nil 1 _) (.refl _)
        · have h2' : ¬ ((b.getD i 0).toNat : Int) = 13 ∧ ¬ ((b.getD i 0).toNat : Int) = 10 := ⟨fun q => h2 (.inl (b1.2 q)), fun q => h2 (.inr (b2.2 q))⟩
          rw [k3 h2]
          clear k1 k2 k3 b1 b2 b3 hI
          have hone := oneB b i hil
          repeat' (first
            | with_reducible (first | refine t_seq ?_ | refine t_region ?_ | refine c_nil ?_ | refine n_then ?_ | refine t_ret ?_ | refine t_skip ?_ | refine t_exit ?_ | refine t_block ?_ | refine n_block ?_ | refine e_then ?_ | refine x_then ?_ | refine x_block ?_ | refine t_draw ?_)
            | refine r_val rfl rfl True.intro ?_ | refine r_gskip rfl rfl rfl ?_ | refine r_gskip2 rfl rfl rfl ?_ | refine r_gval rfl rfl rfl rfl True.intro ?_
            | refine t_true rfl ?_ | refine t_false rfl ?_
            | ((first | refine t_cond_d rfl ?_ ?_ | refine t_cond_i rfl ?_ ?_ | refine t_cond_j rfl ?_ ?_ | refine t_cond_s rfl ?_ ?_ | refine t_cond_n rfl ?_ ?_ | refine t_cond rfl ?_ ?_ | refine c_split_d rfl rfl ?_ ?_ | refine c_split_i rfl rfl ?_ ?_ | refine c_split_j rfl rfl ?_ ?_ | refine c_split_s rfl rfl ?_ ?_ | refine c_split_n rfl rfl ?_ ?_) <;> intro <;> try (first | (rename_i hz; exact Bool.noConfusion (show true = false from hz)) | (rename_i hz; exact Bool.noConfusion (show false = true from hz)) | (exfalso; omega)))
            | ((first | refine r_val rfl rfl ?_ ?_ | refine r_gval rfl rfl rfl rfl ?_ ?_ | refine r_obj rfl rfl ?_ ?_ | refine r_sto rfl ?_ ?_ | refine r_gobj rfl rfl rfl rfl ?_ ?_); focus (first | (first | exact ⟨rfl, fun i _ => ⟨_, rfl⟩⟩ | exact fun i _ => ⟨_, rfl⟩ | (rw [hone]; simp; omega)) | omega | exact Nat.le_of_ble_eq_true rfl | (simp only [wrap_u8, IntKind.wrap_i64, IntKind.wrap_i32, wrap_u32', wrap_u64', InI]; (repeat' refine And.intro ?_ ?_) <;> omega) | ((repeat' refine And.intro ?_ ?_) <;> first | omega | rfl | exact Nat.le_refl _ | exact Nat.le_of_ble_eq_true rfl | exact bytesF_one _) | (simp_all; done) | (simp_all; omega)))
            | refine e_hit rfl ?_ | refine e_miss rfl ?_
            | with_reducible refine ⟨by kernel_rfl, ?_⟩ | refine x_endw rfl ?_ | refine n_endw rfl ?_ | ((with_reducible refine c_grd ?_); (fail_if_success (refine c_lit true rfl rfl rfl ?_)); (fail_if_success (refine c_lit false rfl rfl rfl ?_)); refine c_split rfl rfl (fun _ => ?_) (fun _ => ?_)))
          all_goals exact ⟨(l, s ++ [b.getD i 0], i + 1), ⟨by dsimp only; omega, rfl, by dsimp only; omega, by dsimp only; simp; omega⟩, by dsimp only; omega, ⟨rfl, rfl, congrArg (fun x => D.s (s ++ x)) hone, congrArg (D.i .i64) (by dsimp only; omega), trivial⟩, ⟨rfl, trivial⟩, rfl, fun q hq => by rw [hX] at hq; simp at hq⟩
    · have hend : b.getD (i + 1) 0 = 0 := by rw [List.getD_eq_getElem?_getD, List.getElem?_eq_none (by omega)]; rfl
      have hc : ¬ (b.getD i 0 = 13 ∧ b.getD (i + 1) 0 = 10) := fun q => by
        rw [hend] at q
        exact absurd q.2 (by decide)
      by_cases h2 : b.getD i 0 = 13 ∨ b.getD i 0 = 10
      · have h2' : ((b.getD i 0).toNat : Int) = 13 ∨ ((b.getD i 0).toNat : Int) = 10 := h2.imp b1.1 b2.1
        rw [k2 hc h2]
        clear k1 k2 k3 b1 b2 b3 hI
        repeat' (first
          | with_reducible (first | refine t_seq ?_ | refine t_region ?_ | refine c_nil ?_ | refine n_then ?_ | refine t_ret ?_ | refine t_skip ?_ | refine t_exit ?_ | refine t_block ?_ | refine n_block ?_ | refine e_then ?_ | refine x_then ?_ | refine x_block ?_ | refine t_draw ?_)
          | refine r_val rfl rfl True.intro ?_ | refine r_gskip rfl rfl rfl ?_ | refine r_gskip2 rfl rfl rfl ?_ | refine r_gval rfl rfl rfl rfl True.intro ?_
          | refine t_true rfl ?_ | refine t_false rfl ?_
          | ((first | refine t_cond_d rfl ?_ ?_ | refine t_cond_i rfl ?_ ?_ | refine t_cond_j rfl ?_ ?_ | refine t_cond_s rfl ?_ ?_ | refine t_cond_n rfl ?_ ?_ | refine t_cond rfl ?_ ?_ | refine c_split_d rfl rfl ?_ ?_ | refine c_split_i rfl rfl ?_ ?_ | refine c_split_j rfl rfl ?_ ?_ | refine c_split_s rfl rfl ?_ ?_ | refine c_split_n rfl rfl ?_ ?_) <;> intro <;> try (first | (rename_i hz; exact Bool.noConfusion (show true = false from hz)) | (rename_i hz; exact Bool.noConfusion (show false = true from hz)) | (exfalso; omega)))
          | ((first | refine r_val rfl rfl ?_ ?_ | refine r_gval rfl rfl rfl rfl ?_ ?_ | refine r_obj rfl rfl ?_ ?_ | refine r_sto rfl ?_ ?_ | refine r_gobj rfl rfl rfl rfl ?_ ?_); focus (first | omega | exact Nat.le_of_ble_eq_true rfl | (simp only [wrap_u8, IntKind.wrap_i64, IntKind.wrap_i32, wrap_u32', wrap_u64', InI]; (repeat' refine And.intro ?_ ?_) <;> omega) | ((repeat' refine And.intro ?_ ?_) <;> first | omega | rfl | exact Nat.le_refl _ | exact Nat.le_of_ble_eq_true rfl | exact bytesF_one _) | (simp_all; done) | (simp_all; omega)))
          | refine e_hit rfl ?_ | refine e_miss rfl ?_
          | with_reducible refine ⟨by kernel_rfl, ?_⟩ | refine x_endw rfl ?_ | refine n_endw rfl ?_ | ((with_reducible refine c_grd ?_); (fail_if_success (refine c_lit true rfl rfl rfl ?_)); (fail_if_success (refine c_lit false rfl rfl rfl ?_)); refine c_split rfl rfl (fun _ => ?_) (fun _ => ?_)))
        all_goals exact .tu2 (.nil 1 _) (.refl _)
      · have h2' : ¬ ((b.getD i 0).toNat : Int) = 13 ∧ ¬ ((b.getD i 0).toNat : Int) = 10 := ⟨fun q => h2 (.inl (b1.2 q)), fun q => h2 (.inr (b2.2 q))⟩
        rw [k3 h2]
        clear k1 k2 k3 b1 b2 b3 hI
        have hone := oneB b i hil
        repeat' (first
          | with_reducible (first | refine t_seq ?_ | refine t_region ?_ | refine c_nil ?_ | refine n_then ?_ | refine t_ret ?_ | refine t_skip ?_ | refine t_exit ?_ | refine t_block ?_ | refine n_block ?_ | refine e_then ?_ | refine x_then ?_ | refine x_block ?_ | refine t_draw ?_)
          | refine r_val rfl rfl True.intro ?_ | refine r_gskip rfl rfl rfl ?_ | refine r_gskip2 rfl rfl rfl ?_ | refine r_gval rfl rfl rfl rfl True.intro ?_
          | refine t_true rfl ?_ | refine t_false rfl ?_
          | ((first | refine t_cond_d rfl ?_ ?_ | refine t_cond_i rfl ?_ ?_ | refine t_cond_j rfl ?_ ?_ | refine t_cond_s rfl ?_ ?_ | refine t_cond_n rfl ?_ ?_ | refine t_cond rfl ?_ ?_ | refine c_split_d rfl rfl ?_ ?_ | refine c_split_i rfl rfl ?_ ?_ | refine c_split_j rfl rfl ?_ ?_ | refine c_split_s rfl rfl ?_ ?_ | refine c_split_n rfl rfl ?_ ?_) <;> intro <;> try (first | (rename_i hz; exact Bool.noConfusion (show true = false from hz)) | (rename_i hz; exact Bool.noConfusion (show false = true from hz)) | (exfalso; omega)))
          | ((first | refine r_val rfl rfl ?_ ?_ | refine r_gval rfl rfl rfl rfl ?_ ?_ | refine r_obj rfl rfl ?_ ?_ | refine r_sto rfl ?_ ?_ | refine r_gobj rfl rfl rfl rfl ?_ ?_); focus (first | (first | exact ⟨rfl, fun i _ => ⟨_, rfl⟩⟩ | exact fun i _ => ⟨_, rfl⟩ | (rw [hone]; simp; omega)) | omega | exact Nat.le_of_ble_eq_true rfl | (simp only [wrap_u8, IntKind.wrap_i64, IntKind.wrap_i32, wrap_u32', wrap_u64', InI]; (repeat' refine And.intro ?_ ?_) <;> omega) | ((repeat' refine And.intro ?_ ?_) <;> first | omega | rfl | exact Nat.le_refl _ | exact Nat.le_of_ble_eq_true rfl | exact bytesF_one _) | (simp_all; done) | (simp_all; omega)))
          | refine e_hit rfl ?_ | refine e_miss rfl ?_
          | with_reducible refine ⟨by kernel_rfl, ?_⟩ | refine x_endw rfl ?_ | refine n_endw rfl ?_ | ((with_reducible refine c_grd ?_); (fail_if_success (refine c_lit true rfl rfl rfl ?_)); (fail_if_success (refine c_lit false rfl rfl rfl ?_)); refine c_split rfl rfl (fun _ => ?_) (fun _ => ?_)))
        all_goals exact ⟨(l, s ++ [b.getD i 0], i + 1), ⟨by dsimp only; omega, rfl, by dsimp only; omega, by dsimp only; simp; omega⟩, by dsimp only; omega, ⟨rfl, rfl, congrArg (fun x => D.s (s ++ x)) hone, congrArg (D.i .i64) (by dsimp only; omega), trivial⟩, ⟨rfl, trivial⟩, rfl, fun q hq => by rw [hX] at hq; simp at hq⟩
  · rw [List.drop_eq_nil_of_le (by omega), linR_nil]
    repeat' (first
      | with_reducible (first | refine t_seq ?_ | refine t_region ?_ | refine c_nil ?_ | refine n_then ?_ | refine t_ret ?_ | refine t_skip ?_ | refine t_exit ?_ | refine t_block ?_ | refine n_block ?_ | refine e_then ?_ | refine x_then ?_ | refine x_block ?_ | refine t_draw ?_)
      | refine r_val rfl rfl True.intro ?_ | refine r_gskip rfl rfl rfl ?_ | refine r_gskip2 rfl rfl rfl ?_ | refine r_gval rfl rfl rfl rfl True.intro ?_
      | refine t_true rfl ?_ | refine t_false rfl ?_
      | ((first | refine t_cond_d rfl ?_ ?_ | refine t_cond_i rfl ?_ ?_ | refine t_cond_j rfl ?_ ?_ | refine t_cond_s rfl ?_ ?_ | refine t_cond_n rfl ?_ ?_ | refine t_cond rfl ?_ ?_ | refine c_split_d rfl rfl ?_ ?_ | refine c_split_i rfl rfl ?_ ?_ | refine c_split_j rfl rfl ?_ ?_ | refine c_split_s rfl rfl ?_ ?_ | refine c_split_n rfl rfl ?_ ?_) <;> intro <;> try (first | (rename_i hz; exact Bool.noConfusion (show true = false from hz)) | (rename_i hz; exact Bool.noConfusion (show false = true from hz)) | (exfalso; omega)))
      | ((first | refine r_val rfl rfl ?_ ?_ | refine r_gval rfl rfl rfl rfl ?_ ?_ | refine r_obj rfl rfl ?_ ?_ | refine r_sto rfl ?_ ?_ | refine r_gobj rfl rfl rfl rfl ?_ ?_); focus (first | omega | exact Nat.le_of_ble_eq_true rfl | (simp only [wrap_u8, IntKind.wrap_i64, IntKind.wrap_i32, wrap_u32', wrap_u64', InI]; (repeat' refine And.intro ?_ ?_) <;> omega) | ((repeat' refine And.intro ?_ ?_) <;> first | omega | rfl | exact Nat.le_refl _ | exact Nat.le_of_ble_eq_true rfl | exact bytesF_one _) | (simp_all; done) | (simp_all; omega)))
      | refine e_hit rfl ?_ | refine e_miss rfl ?_
      | with_reducible refine ⟨by kernel_rfl, ?_⟩ | refine x_endw rfl ?_ | refine n_endw rfl ?_ | ((with_reducible refine c_grd ?_); (fail_if_success (refine c_lit true rfl rfl rfl ?_)); (fail_if_success (refine c_lit false rfl rfl rfl ?_)); refine c_split rfl rfl (fun _ => ?_) (fun _ => ?_)))
    all_goals exact .tu2 (.nil 1 _) (.refl _)

theorem fndN_drop (c : UInt8) (s : List UInt8) (k : Nat) : (s.drop k).take (fndN c (s.drop k)) = (s.take (k + fndN c (s.drop k))).drop k := by
  rw [List.drop_take, Nat.add_sub_cancel_left]

/-- The first line, by places. -/
theorem fir_eq (s : List UInt8) : firP s = if fndN 32 s < s.length ∧ fndN 32 s + 1 + fndN 32 (s.drop (fndN 32 s + 1)) < s.length ∧ s.drop (fndN 32 s + 1 + fndN 32 (s.drop (fndN 32 s + 1)) + 1) = http ∧ ¬ fndN 32 (s.drop (fndN 32 s + 1)) = 0 ∧ tokB (s.take (fndN 32 s)) = true ∧ ((s.take (fndN 32 s + 1 + fndN 32 (s.drop (fndN 32 s + 1)))).drop (fndN 32 s + 1)).all tgC = true then
    (s.take (fndN 32 s), (s.take (fndN 32 s + 1 + fndN 32 (s.drop (fndN 32 s + 1)))).drop (fndN 32 s + 1), true) else ([], [], false) := by
  unfold firP
  rw [cut_one]
  have hl := fndN_le 32 s
  generalize fndN 32 s = a at *
  by_cases ha : a < s.length
  · rw [if_pos ha]
    dsimp only
    rw [cut_one]
    have hl2 := fndN_le 32 (s.drop (a + 1))
    have hf := fndN_drop 32 s (a + 1)
    generalize fndN 32 (s.drop (a + 1)) = k at *
    rw [List.length_drop] at hl2
    by_cases hb : a + 1 + k < s.length
    · rw [if_pos (show k < (s.drop (a + 1)).length by rw [List.length_drop]; omega)]
      dsimp only
      rw [hf, List.drop_drop]
      have hne : (s.take (a + 1 + k)).drop (a + 1) = [] ↔ k = 0 := by
        rw [← List.length_eq_zero_iff, List.length_drop, List.length_take]
        omega
      have e3 : a + 1 + (k + 1) = a + 1 + k + 1 := by omega
      rw [e3]
      by_cases hall : tokB (s.take a) = true ∧ ¬ k = 0 ∧ s.drop (a + 1 + k + 1) = http ∧ ((s.take (a + 1 + k)).drop (a + 1)).all tgC = true
      · rw [if_pos ⟨rfl, rfl, hall.1, mt hne.1 hall.2.1, hall.2.2.1, hall.2.2.2⟩, if_pos ⟨ha, hb, hall.2.2.1, hall.2.1, hall.1, hall.2.2.2⟩]
      · rw [if_neg (fun q => hall ⟨q.2.2.1, mt hne.2 q.2.2.2.1, q.2.2.2.2.1, q.2.2.2.2.2⟩), if_neg (fun q => hall ⟨q.2.2.2.2.1, q.2.2.2.1, q.2.2.1, q.2.2.2.2.2⟩)]
    · rw [if_neg (show ¬ k < (s.drop (a + 1)).length by rw [List.length_drop]; omega)]
      dsimp only
      rw [if_neg (fun q => Bool.noConfusion q.2.1), if_neg (fun q => hb q.2.1)]
  · rw [if_neg ha]
    dsimp only
    rw [if_neg (fun q => Bool.noConfusion q.1), if_neg (fun q => ha q.1)]

set_option maxRecDepth 100000 in
set_option maxHeartbeats 4000000 in
theorem rfirst_ctr (s : List UInt8) (hs : s.length ≤ 1000000) : Ctr Tryd.prog 47 [.s s] (triD (firP s)) := by
  have hF := fir_eq s
  have c1 := find_ctr s 0 32 hs (Nat.zero_le _)
  rw [List.drop_zero, Nat.zero_add] at c1
  have l1 := fndN_le 32 s
  generalize firP s = R at *
  generalize fndN 32 s = a at *
  refine r_fun Tryd.func47 rfl Tryd.ntmps47 Tryd.results47 rfl rfl fun X hL hX => ?_
  by_cases ha : a < s.length
  · have c2 := find_ctr s (a + 1) 32 hs ha
    have l2 := fndN_le 32 (s.drop (a + 1))
    rw [List.length_drop] at l2
    generalize fndN 32 (s.drop (a + 1)) = k at *
    have c3 := rtoken_ctr (s.take a) (by rw [List.length_take]; omega)
    have e1 : List.drop (((a + 1 + k : Nat) : Int) + 1).toNat (List.take (s.length : Int).toNat s) = s.drop (a + 1 + k + 1) := by
      rw [show (((a + 1 + k : Nat) : Int) + 1) = ((a + 1 + k + 1 : Nat) : Int) by omega, drop_raw]
    have hraw : http = (ByteArray.mk #[72, 84, 84, 80, 47, 49, 46, 49]).data.toList := rfl
    by_cases hall : a + 1 + k < s.length ∧ s.drop (a + 1 + k + 1) = http ∧ ¬ k = 0 ∧ tokB (s.take a) = true
    · obtain ⟨hb, hv, hk, ht⟩ := hall
      have hv' : List.drop (((a + 1 + k : Nat) : Int) + 1).toNat (List.take (s.length : Int).toNat s) = (ByteArray.mk #[72, 84, 84, 80, 47, 49, 46, 49]).data.toList := e1.trans hv
      rw [ht] at c3 hF
      have hF2 : R = if ((s.take (a + 1 + k)).drop (a + 1)).all tgC = true then (s.take a, (s.take (a + 1 + k)).drop (a + 1), true) else ([], [], false) := by
        rw [hF]
        by_cases h : ((s.take (a + 1 + k)).drop (a + 1)).all tgC = true
        · rw [if_pos ⟨ha, hb, hv, hk, rfl, h⟩, if_pos h]
        · rw [if_neg (fun q => h q.2.2.2.2.2), if_neg h]
      clear hF e1
      repeat' (first
        | refine r_call (f := 48) rfl rfl Tryd.call48 rfl c1 ?_ | refine r_call (f := 48) rfl rfl Tryd.call48 rfl c2 ?_ | refine r_gcall (f := 18) rfl rfl rfl rfl Tryd.call18 rfl c3 ?_
        | with_reducible (first | refine t_seq ?_ | refine t_region ?_ | refine c_nil ?_ | refine n_then ?_ | refine t_ret ?_ | refine t_skip ?_ | refine t_exit ?_ | refine t_block ?_ | refine n_block ?_ | refine e_then ?_ | refine x_then ?_ | refine x_block ?_ | refine t_draw ?_)
        | refine r_val rfl rfl True.intro ?_ | refine r_gskip rfl rfl rfl ?_ | refine r_gskip2 rfl rfl rfl ?_ | refine r_gval rfl rfl rfl rfl True.intro ?_
        | refine t_true rfl ?_ | refine t_false rfl ?_
        | ((first | refine t_cond_d rfl ?_ ?_ | refine t_cond_i rfl ?_ ?_ | refine t_cond_j rfl ?_ ?_ | refine t_cond_s rfl ?_ ?_ | refine t_cond_n rfl ?_ ?_ | refine t_cond rfl ?_ ?_ | refine c_split_d rfl rfl ?_ ?_ | refine c_split_i rfl rfl ?_ ?_ | refine c_split_j rfl rfl ?_ ?_ | refine c_split_s rfl rfl ?_ ?_ | refine c_split_n rfl rfl ?_ ?_) <;> intro <;> try (first | (rename_i hz; exact Bool.noConfusion (show true = false from hz)) | (rename_i hz; exact Bool.noConfusion (show false = true from hz)) | (exfalso; omega)))
        | ((first | refine r_val rfl rfl ?_ ?_ | refine r_gval rfl rfl rfl rfl ?_ ?_ | refine r_obj rfl rfl ?_ ?_ | refine r_sto rfl ?_ ?_ | refine r_gobj rfl rfl rfl rfl ?_ ?_); focus (first | omega | exact Nat.le_of_ble_eq_true rfl | (simp only [wrap_u8, IntKind.wrap_i64, IntKind.wrap_i32, wrap_u32', wrap_u64', InI]; (repeat' refine And.intro ?_ ?_) <;> omega) | ((repeat' refine And.intro ?_ ?_) <;> first | omega | rfl | exact Nat.le_refl _ | exact Nat.le_of_ble_eq_true rfl | exact bytesF_one _) | (simp_all; done) | (simp_all; omega)))
        | refine e_hit rfl ?_ | refine e_miss rfl ?_
        | with_reducible refine ⟨by kernel_rfl, ?_⟩ | refine x_end rfl ?_ | refine n_end rfl ?_ | ((with_reducible refine c_grd ?_); (fail_if_success (refine c_lit true rfl rfl rfl ?_)); (fail_if_success (refine c_lit false rfl rfl rfl ?_)); refine c_split rfl rfl (fun _ => ?_) (fun _ => ?_)))
      · exfalso
        rename_i q
        have hb := beq_iff_eq.2 hv'
        simp only [hb, Bool.true_eq_false] at *
      refine T.loop hL (fun m : Nat => [(0, .s s), (5, .i .i64 a), (6, .i .i64 (a + 1 + k : Nat)), (7, .i .i64 (a + 1 + m : Nat))]) (fun _ => []) (fun m => m ≤ k ∧ ((s.take (a + 1 + m)).drop (a + 1)).all tgC = true) (fun m => k - m) 0 ⟨Nat.zero_le _, by
          rw [List.drop_eq_nil_of_le (by rw [List.length_take]; omega)]
          rfl⟩
        ⟨⟨rfl, rfl, rfl, rfl, trivial⟩, trivial, rfl, fun q hq => by rw [hX] at hq; simp at hq⟩ ?_
      rintro m ⟨hm, hall⟩
      by_cases hml : m < k
      · have hst : ((s.take (a + 1 + (m + 1))).drop (a + 1)).all tgC = (((s.take (a + 1 + m)).drop (a + 1)).all tgC && tgC (s.getD (a + 1 + m) 0)) := by
          rw [show a + 1 + (m + 1) = (a + 1 + m) + 1 by omega, List.take_add_one, List.drop_append_of_le_length (by rw [List.length_take]; omega), List.all_append]
          congr 1
          have : s[a + 1 + m]? = some (s.getD (a + 1 + m) 0) := by simp [List.getD_eq_getElem?_getD, show a + 1 + m < s.length by omega]
          rw [this]
          simp
        have hat := atN s (a + 1 + m)
        cases hc : tgC (s.getD (a + 1 + m) 0) with
        | true =>
          have hcc := of_decide_eq_true hc
          have hna : 33 ≤ at' s (a + 1 + m : Nat) ∧ at' s (a + 1 + m : Nat) ≤ 126 := by omega
          clear hcc hat
          repeat' (first
            | with_reducible (first | refine t_seq ?_ | refine t_region ?_ | refine c_nil ?_ | refine n_then ?_ | refine t_ret ?_ | refine t_skip ?_ | refine t_exit ?_ | refine t_block ?_ | refine n_block ?_ | refine e_then ?_ | refine x_then ?_ | refine x_block ?_ | refine t_draw ?_)
            | refine r_val rfl rfl True.intro ?_ | refine r_gskip rfl rfl rfl ?_ | refine r_gskip2 rfl rfl rfl ?_ | refine r_gval rfl rfl rfl rfl True.intro ?_
            | refine t_true rfl ?_ | refine t_false rfl ?_
            | ((first | refine t_cond_d rfl ?_ ?_ | refine t_cond_i rfl ?_ ?_ | refine t_cond_j rfl ?_ ?_ | refine t_cond_s rfl ?_ ?_ | refine t_cond_n rfl ?_ ?_ | refine t_cond rfl ?_ ?_ | refine c_split_d rfl rfl ?_ ?_ | refine c_split_i rfl rfl ?_ ?_ | refine c_split_j rfl rfl ?_ ?_ | refine c_split_s rfl rfl ?_ ?_ | refine c_split_n rfl rfl ?_ ?_) <;> intro <;> try (first | (rename_i hz; exact Bool.noConfusion (show true = false from hz)) | (rename_i hz; exact Bool.noConfusion (show false = true from hz)) | (exfalso; omega)))
            | ((first | refine r_val rfl rfl ?_ ?_ | refine r_gval rfl rfl rfl rfl ?_ ?_ | refine r_obj rfl rfl ?_ ?_ | refine r_sto rfl ?_ ?_ | refine r_gobj rfl rfl rfl rfl ?_ ?_); focus (first | omega | exact Nat.le_of_ble_eq_true rfl | (simp only [wrap_u8, IntKind.wrap_i64, IntKind.wrap_i32, wrap_u32', wrap_u64', InI]; (repeat' refine And.intro ?_ ?_) <;> omega) | ((repeat' refine And.intro ?_ ?_) <;> first | omega | rfl | exact Nat.le_refl _ | exact Nat.le_of_ble_eq_true rfl | exact bytesF_one _) | (simp_all; done) | (simp_all; omega)))
            | refine e_hit rfl ?_ | refine e_miss rfl ?_
            | with_reducible refine ⟨by kernel_rfl, ?_⟩ | refine x_end rfl ?_ | refine n_end rfl ?_ | ((with_reducible refine c_grd ?_); (fail_if_success (refine c_lit true rfl rfl rfl ?_)); (fail_if_success (refine c_lit false rfl rfl rfl ?_)); refine c_split rfl rfl (fun _ => ?_) (fun _ => ?_)))
          all_goals exact ⟨m + 1, ⟨by omega, by rw [hst, hall, hc]; rfl⟩, by omega, ⟨rfl, rfl, rfl, congrArg (D.i .i64) (by omega), trivial⟩, trivial, rfl, fun q hq => by rw [hX] at hq; simp at hq⟩
        | false =>
          have hcc := of_decide_eq_false hc
          have hna : ¬ (33 ≤ at' s (a + 1 + m : Nat) ∧ at' s (a + 1 + m : Nat) ≤ 126) := by omega
          have hbad : ((s.take (a + 1 + k)).drop (a + 1)).all tgC = false := by
            rw [List.all_eq_false]
            refine ⟨s.getD (a + 1 + m) 0, ?_, by rw [hc]; exact Bool.false_ne_true⟩
            have hlen : m < ((s.take (a + 1 + k)).drop (a + 1)).length := by rw [List.length_drop, List.length_take]; omega
            have : ((s.take (a + 1 + k)).drop (a + 1))[m] = s.getD (a + 1 + m) 0 := by
              simp [List.getD_eq_getElem?_getD, show a + 1 + m < s.length by omega]
            rw [← this]
            exact List.getElem_mem hlen
          rw [hF2, if_neg (by rw [hbad]; exact Bool.false_ne_true)]
          clear hcc hat
          repeat' (first
            | with_reducible (first | refine t_seq ?_ | refine t_region ?_ | refine c_nil ?_ | refine n_then ?_ | refine t_ret ?_ | refine t_skip ?_ | refine t_exit ?_ | refine t_block ?_ | refine n_block ?_ | refine e_then ?_ | refine x_then ?_ | refine x_block ?_ | refine t_draw ?_)
            | refine r_val rfl rfl True.intro ?_ | refine r_gskip rfl rfl rfl ?_ | refine r_gskip2 rfl rfl rfl ?_ | refine r_gval rfl rfl rfl rfl True.intro ?_
            | refine t_true rfl ?_ | refine t_false rfl ?_
            | ((first | refine t_cond_d rfl ?_ ?_ | refine t_cond_i rfl ?_ ?_ | refine t_cond_j rfl ?_ ?_ | refine t_cond_s rfl ?_ ?_ | refine t_cond_n rfl ?_ ?_ | refine t_cond rfl ?_ ?_ | refine c_split_d rfl rfl ?_ ?_ | refine c_split_i rfl rfl ?_ ?_ | refine c_split_j rfl rfl ?_ ?_ | refine c_split_s rfl rfl ?_ ?_ | refine c_split_n rfl rfl ?_ ?_) <;> intro <;> try (first | (rename_i hz; exact Bool.noConfusion (show true = false from hz)) | (rename_i hz; exact Bool.noConfusion (show false = true from hz)) | (exfalso; omega)))
            | ((first | refine r_val rfl rfl ?_ ?_ | refine r_gval rfl rfl rfl rfl ?_ ?_ | refine r_obj rfl rfl ?_ ?_ | refine r_sto rfl ?_ ?_ | refine r_gobj rfl rfl rfl rfl ?_ ?_); focus (first | omega | exact Nat.le_of_ble_eq_true rfl | (simp only [wrap_u8, IntKind.wrap_i64, IntKind.wrap_i32, wrap_u32', wrap_u64', InI]; (repeat' refine And.intro ?_ ?_) <;> omega) | ((repeat' refine And.intro ?_ ?_) <;> first | omega | rfl | exact Nat.le_refl _ | exact Nat.le_of_ble_eq_true rfl | exact bytesF_one _) | (simp_all; done) | (simp_all; omega)))
            | refine e_hit rfl ?_ | refine e_miss rfl ?_
            | with_reducible refine ⟨by kernel_rfl, ?_⟩ | refine x_end rfl ?_ | refine n_end rfl ?_ | ((with_reducible refine c_grd ?_); (fail_if_success (refine c_lit true rfl rfl rfl ?_)); (fail_if_success (refine c_lit false rfl rfl rfl ?_)); refine c_split rfl rfl (fun _ => ?_) (fun _ => ?_)))
          all_goals rfl
      · have : m = k := by omega
        subst this
        rw [hF2, if_pos hall]
        repeat' (first
          | with_reducible (first | refine t_seq ?_ | refine t_region ?_ | refine c_nil ?_ | refine n_then ?_ | refine t_ret ?_ | refine t_skip ?_ | refine t_exit ?_ | refine t_block ?_ | refine n_block ?_ | refine e_then ?_ | refine x_then ?_ | refine x_block ?_ | refine t_draw ?_)
          | refine r_val rfl rfl True.intro ?_ | refine r_gskip rfl rfl rfl ?_ | refine r_gskip2 rfl rfl rfl ?_ | refine r_gval rfl rfl rfl rfl True.intro ?_
          | refine t_true rfl ?_ | refine t_false rfl ?_
          | ((first | refine t_cond_d rfl ?_ ?_ | refine t_cond_i rfl ?_ ?_ | refine t_cond_j rfl ?_ ?_ | refine t_cond_s rfl ?_ ?_ | refine t_cond_n rfl ?_ ?_ | refine t_cond rfl ?_ ?_ | refine c_split_d rfl rfl ?_ ?_ | refine c_split_i rfl rfl ?_ ?_ | refine c_split_j rfl rfl ?_ ?_ | refine c_split_s rfl rfl ?_ ?_ | refine c_split_n rfl rfl ?_ ?_) <;> intro <;> try (first | (rename_i hz; exact Bool.noConfusion (show true = false from hz)) | (rename_i hz; exact Bool.noConfusion (show false = true from hz)) | (exfalso; omega)))
          | ((first | refine r_val rfl rfl ?_ ?_ | refine r_gval rfl rfl rfl rfl ?_ ?_ | refine r_obj rfl rfl ?_ ?_ | refine r_sto rfl ?_ ?_ | refine r_gobj rfl rfl rfl rfl ?_ ?_); focus (first | omega | exact Nat.le_of_ble_eq_true rfl | (simp only [wrap_u8, IntKind.wrap_i64, IntKind.wrap_i32, wrap_u32', wrap_u64', InI]; (repeat' refine And.intro ?_ ?_) <;> omega) | ((repeat' refine And.intro ?_ ?_) <;> first | omega | rfl | exact Nat.le_refl _ | exact Nat.le_of_ble_eq_true rfl | exact bytesF_one _) | (simp_all; done) | (simp_all; omega)))
          | refine e_hit rfl ?_ | refine e_miss rfl ?_
          | with_reducible refine ⟨by kernel_rfl, ?_⟩ | refine x_end rfl ?_ | refine n_end rfl ?_ | ((with_reducible refine c_grd ?_); (fail_if_success (refine c_lit true rfl rfl rfl ?_)); (fail_if_success (refine c_lit false rfl rfl rfl ?_)); refine c_split rfl rfl (fun _ => ?_) (fun _ => ?_)))
        all_goals rfl
    · have hn : R = ([], [], false) := by
        rw [hF]
        exact if_neg fun q => hall ⟨q.2.1, q.2.2.1, q.2.2.2.1, q.2.2.2.2.1⟩
      rw [hn]
      clear hF hn
      have hv' : (List.drop (((a + 1 + k : Nat) : Int) + 1).toNat (List.take (s.length : Int).toNat s) == (ByteArray.mk #[72, 84, 84, 80, 47, 49, 46, 49]).data.toList) = (s.drop (a + 1 + k + 1) == http) := by rw [e1]; rfl
      generalize tokB (s.take a) = tk at *
      repeat' (first
        | refine r_call (f := 48) rfl rfl Tryd.call48 rfl c1 ?_ | refine r_call (f := 48) rfl rfl Tryd.call48 rfl c2 ?_ | refine r_gcall (f := 18) rfl rfl rfl rfl Tryd.call18 rfl c3 ?_
        | with_reducible (first | refine t_seq ?_ | refine t_region ?_ | refine c_nil ?_ | refine n_then ?_ | refine t_ret ?_ | refine t_skip ?_ | refine t_exit ?_ | refine t_block ?_ | refine n_block ?_ | refine e_then ?_ | refine x_then ?_ | refine x_block ?_ | refine t_draw ?_)
        | refine r_val rfl rfl True.intro ?_ | refine r_gskip rfl rfl rfl ?_ | refine r_gskip2 rfl rfl rfl ?_ | refine r_gval rfl rfl rfl rfl True.intro ?_
        | refine t_true rfl ?_ | refine t_false rfl ?_
        | ((first | refine t_cond_d rfl ?_ ?_ | refine t_cond_i rfl ?_ ?_ | refine t_cond_j rfl ?_ ?_ | refine t_cond_s rfl ?_ ?_ | refine t_cond_n rfl ?_ ?_ | refine t_cond rfl ?_ ?_ | refine c_split_d rfl rfl ?_ ?_ | refine c_split_i rfl rfl ?_ ?_ | refine c_split_j rfl rfl ?_ ?_ | refine c_split_s rfl rfl ?_ ?_ | refine c_split_n rfl rfl ?_ ?_) <;> intro <;> try (first | (rename_i hz; exact Bool.noConfusion (show true = false from hz)) | (rename_i hz; exact Bool.noConfusion (show false = true from hz)) | (exfalso; omega)))
        | ((first | refine r_val rfl rfl ?_ ?_ | refine r_gval rfl rfl rfl rfl ?_ ?_ | refine r_obj rfl rfl ?_ ?_ | refine r_sto rfl ?_ ?_ | refine r_gobj rfl rfl rfl rfl ?_ ?_); focus (first | omega | exact Nat.le_of_ble_eq_true rfl | (simp only [wrap_u8, IntKind.wrap_i64, IntKind.wrap_i32, wrap_u32', wrap_u64', InI]; (repeat' refine And.intro ?_ ?_) <;> omega) | ((repeat' refine And.intro ?_ ?_) <;> first | omega | rfl | exact Nat.le_refl _ | exact Nat.le_of_ble_eq_true rfl | exact bytesF_one _) | (simp_all; done) | (simp_all; omega)))
        | refine e_hit rfl ?_ | refine e_miss rfl ?_
        | with_reducible refine ⟨by kernel_rfl, ?_⟩ | refine x_end rfl ?_ | refine n_end rfl ?_ | ((with_reducible refine c_grd ?_); (fail_if_success (refine c_lit true rfl rfl rfl ?_)); (fail_if_success (refine c_lit false rfl rfl rfl ?_)); refine c_split rfl rfl (fun _ => ?_) (fun _ => ?_)))
      all_goals first
        | rfl
        | (exfalso; rename_i q1 q2 q3 q4; exact hall ⟨by omega, beq_iff_eq.1 (hv'.symm.trans q2), by omega, by simpa using q4⟩)
        | trace_state
  · have hn : R = ([], [], false) := by
      rw [hF]
      exact if_neg fun q => ha q.1
    rw [hn]
    repeat' (first
      | refine r_call (f := 48) rfl rfl Tryd.call48 rfl c1 ?_
      | with_reducible (first | refine t_seq ?_ | refine t_region ?_ | refine c_nil ?_ | refine n_then ?_ | refine t_ret ?_ | refine t_skip ?_ | refine t_exit ?_ | refine t_block ?_ | refine n_block ?_ | refine e_then ?_ | refine x_then ?_ | refine x_block ?_ | refine t_draw ?_)
      | refine r_val rfl rfl True.intro ?_ | refine r_gskip rfl rfl rfl ?_ | refine r_gskip2 rfl rfl rfl ?_ | refine r_gval rfl rfl rfl rfl True.intro ?_
      | refine t_true rfl ?_ | refine t_false rfl ?_
      | ((first | refine t_cond_d rfl ?_ ?_ | refine t_cond_i rfl ?_ ?_ | refine t_cond_j rfl ?_ ?_ | refine t_cond_s rfl ?_ ?_ | refine t_cond_n rfl ?_ ?_ | refine t_cond rfl ?_ ?_ | refine c_split_d rfl rfl ?_ ?_ | refine c_split_i rfl rfl ?_ ?_ | refine c_split_j rfl rfl ?_ ?_ | refine c_split_s rfl rfl ?_ ?_ | refine c_split_n rfl rfl ?_ ?_) <;> intro <;> try (first | (rename_i hz; exact Bool.noConfusion (show true = false from hz)) | (rename_i hz; exact Bool.noConfusion (show false = true from hz)) | (exfalso; omega)))
      | ((first | refine r_val rfl rfl ?_ ?_ | refine r_gval rfl rfl rfl rfl ?_ ?_ | refine r_obj rfl rfl ?_ ?_ | refine r_sto rfl ?_ ?_ | refine r_gobj rfl rfl rfl rfl ?_ ?_); focus (first | omega | exact Nat.le_of_ble_eq_true rfl | (simp only [wrap_u8, IntKind.wrap_i64, IntKind.wrap_i32, wrap_u32', wrap_u64', InI]; (repeat' refine And.intro ?_ ?_) <;> omega) | ((repeat' refine And.intro ?_ ?_) <;> first | omega | rfl | exact Nat.le_refl _ | exact Nat.le_of_ble_eq_true rfl | exact bytesF_one _) | (simp_all; done) | (simp_all; omega)))
      | refine e_hit rfl ?_ | refine e_miss rfl ?_
      | with_reducible refine ⟨by kernel_rfl, ?_⟩ | refine x_end rfl ?_ | refine n_end rfl ?_ | ((with_reducible refine c_grd ?_); (fail_if_success (refine c_lit true rfl rfl rfl ?_)); (fail_if_success (refine c_lit false rfl rfl rfl ?_)); refine c_split rfl rfl (fun _ => ?_) (fun _ => ?_)))
    all_goals rfl

end Go.Proofs.YtghdgjabpdfaoaaDoor.Flow
