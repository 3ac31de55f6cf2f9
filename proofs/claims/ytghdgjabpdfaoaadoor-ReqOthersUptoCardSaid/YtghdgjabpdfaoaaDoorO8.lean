/- The texts Yc, Yd, Ye, Yf, Yg, W5, Yh, Yi, FlowQ, one behind the other. -/
import Derived.Test.YtghdgjabpdfaoaaDoorO3
import Derived.Test.YtghdgjabpdfaoaaDoorO6
import Derived.Test.YtghdgjabpdfaoaaDoorO7
import Derived.Test.YtghdgjabpdfaoaaDoorRows
import Derived.ProofKit
/- REQ: the document's: Accepts, Tags; the same ones? -/
namespace Go.Proofs.YtghdgjabpdfaoaaDoor.Flow
open Go

/-! ### Tags -/
theorem preT_skip {s : List UInt8} {a : Nat} (ha : a < s.length) (h : ([32, 9, 44] : List UInt8).contains (s.getD a 0) = true) : preT (s.drop a) = preT (s.drop (a + 1)) := by
  have e : Lib.trimLeftS (s.drop a) [32, 9, 44] = Lib.trimLeftS (s.drop (a + 1)) [32, 9, 44] := by
    rw [List.drop_eq_getElem_cons ha]
    have : s[a] = s.getD a 0 := by simp [List.getD_eq_getElem?_getD, ha]
    unfold Lib.trimLeftS
    rw [List.dropWhile_cons, if_pos (by rw [this]; exact h)]
  unfold preT
  rw [e]
theorem tags_of_pre {s t : List UInt8} (h : preT s = preT t) : tagsV s = tagsV t := by
  by_cases hk : okT (preT s)
  · have h1 := tags_more hk
    have h2 := tags_more (s := t) (h ▸ hk)
    rw [h] at h1
    exact h1.trans h2.symm
  · rw [tags_end hk, tags_end (h ▸ hk)]
theorem preT_stay {s : List UInt8} {a : Nat} (ha : a < s.length) (h : ([32, 9, 44] : List UInt8).contains (s.getD a 0) = false) :
    preT (s.drop a) = s.drop (if s.length - a > 2 ∧ at' s a = 87 ∧ at' s (a + 1 : Nat) = 47 ∧ at' s (a + 2 : Nat) = 34 then a + 2 else a) := by
  have e : Lib.trimLeftS (s.drop a) [32, 9, 44] = s.drop a := by
    rw [List.drop_eq_getElem_cons ha]
    have : s[a] = s.getD a 0 := by simp [List.getD_eq_getElem?_getD, ha]
    unfold Lib.trimLeftS
    rw [List.dropWhile_cons, if_neg (by rw [this, h]; exact Bool.false_ne_true)]
  unfold preT
  rw [e]
  have key : Lib.hasPrefix (s.drop a) [87, 47, 34] = true ↔ (s.length - a > 2 ∧ at' s a = 87 ∧ at' s (a + 1 : Nat) = 47 ∧ at' s (a + 2 : Nat) = 34) := by
    rw [atN, atN, atN, show s.getD a 0 = (s.drop a).getD 0 0 from (dropD s a 0).symm, ← dropD s a 1, ← dropD s a 2, ← List.length_drop]
    have q : ∀ (x : UInt8) (n : UInt8), (x.toNat : Int) = (n.toNat : Int) ↔ x = n := fun x n => (byteN x n).symm
    rw [show (87 : Int) = ((87 : UInt8).toNat : Int) from rfl, show (47 : Int) = ((47 : UInt8).toNat : Int) from rfl, show (34 : Int) = ((34 : UInt8).toNat : Int) from rfl, q, q, q]
    generalize s.drop a = t
    unfold Lib.hasPrefix
    match t with
    | [] => simp
    | [x] => simp
    | [x, y] => simp
    | x :: y :: z :: t => 
      simp
      constructor
      · rintro ⟨rfl, rfl, rfl⟩
        exact ⟨rfl, rfl, rfl⟩
      · rintro ⟨rfl, rfl, rfl⟩
        exact ⟨rfl, rfl, rfl⟩
  by_cases hp : Lib.hasPrefix (s.drop a) [87, 47, 34] = true
  · rw [if_pos hp, if_pos (key.1 hp), List.drop_drop]
  · rw [if_neg hp, if_neg (fun q => hp (key.2 q))]

theorem sep3 (s : List UInt8) (a : Nat) : ([32, 9, 44] : List UInt8).contains (s.getD a 0) = (blB (at' s a) || (at' s a == 44)) := by
  have h : ∀ n : Fin 256, ([32, 9, 44] : List UInt8).contains (UInt8.ofNat n.1) = (blB (n.1 : Int) || ((n.1 : Int) == 44)) := by decide +kernel
  have h := h ⟨(s.getD a 0).toNat, (s.getD a 0).toNat_lt⟩
  rw [show UInt8.ofNat (s.getD a 0).toNat = s.getD a 0 by simp] at h
  rw [atN]
  exact h

set_option maxRecDepth 100000 in
set_option maxHeartbeats 8000000 in
theorem rtags_ctr (vs : List (List UInt8)) (hl : vs.length ≤ 3000) (hv : ∀ i, (vs.getD i []).length ≤ 100000) : Ctr Tryd.prog 51 [.sl 1 vs.length (wxF vs)] (lsD (tagsA vs)) := by
  refine r_fun Tryd.func51 rfl Tryd.ntmps51 Tryd.results51 rfl rfl fun X hL hX => ?_
  repeat' (first
    | with_reducible (first | refine t_seq ?_ | refine t_region ?_ | refine c_nil ?_ | refine n_then ?_ | refine t_ret ?_ | refine t_skip ?_ | refine t_exit ?_ | refine t_block ?_ | refine n_block ?_ | refine e_then ?_ | refine x_then ?_ | refine x_block ?_ | refine t_draw ?_)
    | refine r_val rfl rfl True.intro ?_ | refine r_gskip rfl rfl rfl ?_ | refine r_gskip2 rfl rfl rfl ?_ | refine r_gval rfl rfl rfl rfl True.intro ?_
    | refine t_true rfl ?_ | refine t_false rfl ?_
    | ((first | refine t_cond_d rfl ?_ ?_ | refine t_cond_i rfl ?_ ?_ | refine t_cond_j rfl ?_ ?_ | refine t_cond_s rfl ?_ ?_ | refine t_cond_n rfl ?_ ?_ | refine t_cond rfl ?_ ?_ | refine c_split_d rfl rfl ?_ ?_ | refine c_split_i rfl rfl ?_ ?_ | refine c_split_j rfl rfl ?_ ?_ | refine c_split_s rfl rfl ?_ ?_ | refine c_split_n rfl rfl ?_ ?_) <;> intro <;> try (first | (rename_i hz; exact Bool.noConfusion (show true = false from hz)) | (rename_i hz; exact Bool.noConfusion (show false = true from hz)) | (exfalso; omega)))
    | ((first | refine r_val rfl rfl ?_ ?_ | refine r_gval rfl rfl rfl rfl ?_ ?_ | refine r_obj rfl rfl ?_ ?_ | refine r_sto rfl ?_ ?_ | refine r_gobj rfl rfl rfl rfl ?_ ?_); focus (first | omega | exact Nat.le_of_ble_eq_true rfl | (simp only [wrap_u8, IntKind.wrap_i64, IntKind.wrap_i32, wrap_u32', wrap_u64', InI]; (repeat' refine And.intro ?_ ?_) <;> omega) | ((repeat' refine And.intro ?_ ?_) <;> first | omega | rfl | exact Nat.le_refl _ | exact Nat.le_of_ble_eq_true rfl | exact bytesF_one _) | (simp_all; done) | (simp_all; omega)))
    | refine e_hit rfl ?_ | refine e_miss rfl ?_
    | with_reducible refine ⟨by kernel_rfl, ?_⟩ | ((with_reducible refine c_grd ?_); (fail_if_success (refine c_lit true rfl rfl rfl ?_)); (fail_if_success (refine c_lit false rfl rfl rfl ?_)); refine c_split rfl rfl (fun _ => ?_) (fun _ => ?_)))
  refine T.loop hL (fun i : Nat => [(0, .sl 1 vs.length (wxF vs)), (4, .nilS), (5, .i .i64 i)]) (fun _ => []) (fun i => i ≤ vs.length ∧ (vs.take i).any (fun v => decide (v = [42])) = false) (fun i => vs.length - i) 0 ⟨Nat.zero_le _, by simp⟩
    ⟨⟨rfl, rfl, rfl, trivial⟩, trivial, rfl, fun q hq => by rw [hX] at hq; simp at hq⟩ ?_
  rintro i ⟨hi, hany⟩
  by_cases hil : i < vs.length
  · have hst : (vs.take (i + 1)).any (fun v => decide (v = [42])) = ((vs.take i).any (fun v => decide (v = [42])) || decide (vs.getD i [] = [42])) := by
      rw [List.take_add_one, List.any_append]
      congr 1
      have : vs[i]? = some (vs.getD i []) := by simp [List.getD_eq_getElem?_getD, hil]
      rw [this]
      simp
    have hnat : (i : Int).toNat = i := Int.toNat_natCast i
    by_cases hs : vs.getD i [] = [42]
    · have hT : tagsA vs = ([], true) := if_pos (List.any_eq_true.2 ⟨vs.getD i [], by
        rw [List.getD_eq_getElem?_getD, List.getElem?_eq_getElem hil, Option.getD_some]
        exact List.getElem_mem hil, by simpa using hs⟩)
      have hs' : vs.getD (i : Int).toNat [] = [42] := by rw [hnat]; exact hs
      rw [hT]
      repeat' (first
        | with_reducible (first | refine t_seq ?_ | refine t_region ?_ | refine c_nil ?_ | refine n_then ?_ | refine t_ret ?_ | refine t_skip ?_ | refine t_exit ?_ | refine t_block ?_ | refine n_block ?_ | refine e_then ?_ | refine x_then ?_ | refine x_block ?_ | refine t_draw ?_)
        | refine r_val rfl rfl True.intro ?_ | refine r_gskip rfl rfl rfl ?_ | refine r_gskip2 rfl rfl rfl ?_ | refine r_gval rfl rfl rfl rfl True.intro ?_
        | refine t_true rfl ?_ | refine t_false rfl ?_
        | ((first | refine t_cond_d rfl ?_ ?_ | refine t_cond_i rfl ?_ ?_ | refine t_cond_j rfl ?_ ?_ | refine t_cond_s rfl ?_ ?_ | refine t_cond_n rfl ?_ ?_ | refine t_cond rfl ?_ ?_ | refine c_split_d rfl rfl ?_ ?_ | refine c_split_i rfl rfl ?_ ?_ | refine c_split_j rfl rfl ?_ ?_ | refine c_split_s rfl rfl ?_ ?_ | refine c_split_n rfl rfl ?_ ?_) <;> intro <;> try (first | (rename_i hz; exact Bool.noConfusion (show true = false from hz)) | (rename_i hz; exact Bool.noConfusion (show false = true from hz)) | (exfalso; omega)))
        | ((first | refine r_val rfl rfl ?_ ?_ | refine r_gval rfl rfl rfl rfl ?_ ?_ | refine r_obj rfl rfl ?_ ?_ | refine r_sto rfl ?_ ?_ | refine r_gobj rfl rfl rfl rfl ?_ ?_); focus (first | omega | exact Nat.le_of_ble_eq_true rfl | (simp only [wrap_u8, IntKind.wrap_i64, IntKind.wrap_i32, wrap_u32', wrap_u64', InI]; (repeat' refine And.intro ?_ ?_) <;> omega) | ((repeat' refine And.intro ?_ ?_) <;> first | omega | rfl | exact Nat.le_refl _ | exact Nat.le_of_ble_eq_true rfl | exact bytesF_one _) | (simp_all; done) | (simp_all; omega)))
        | refine e_hit rfl ?_ | refine e_miss rfl ?_
        | with_reducible refine ⟨by kernel_rfl, ?_⟩ | refine x_endw rfl ?_ | refine n_endw rfl ?_ | ((with_reducible refine c_grd ?_); (fail_if_success (refine c_lit true rfl rfl rfl ?_)); (fail_if_success (refine c_lit false rfl rfl rfl ?_)); refine c_split rfl rfl (fun _ => ?_) (fun _ => ?_)))
      · exact .tu2 (.nil 1 _) (.refl _)
      · rename_i hz
        exact absurd hs' hz
    · have hs' : ¬ vs.getD (i : Int).toNat [] = [42] := by rw [hnat]; exact hs
      repeat' (first
        | with_reducible (first | refine t_seq ?_ | refine t_region ?_ | refine c_nil ?_ | refine n_then ?_ | refine t_ret ?_ | refine t_skip ?_ | refine t_exit ?_ | refine t_block ?_ | refine n_block ?_ | refine e_then ?_ | refine x_then ?_ | refine x_block ?_ | refine t_draw ?_)
        | refine r_val rfl rfl True.intro ?_ | refine r_gskip rfl rfl rfl ?_ | refine r_gskip2 rfl rfl rfl ?_ | refine r_gval rfl rfl rfl rfl True.intro ?_
        | refine t_true rfl ?_ | refine t_false rfl ?_
        | ((first | refine t_cond_d rfl ?_ ?_ | refine t_cond_i rfl ?_ ?_ | refine t_cond_j rfl ?_ ?_ | refine t_cond_s rfl ?_ ?_ | refine t_cond_n rfl ?_ ?_ | refine t_cond rfl ?_ ?_ | refine c_split_d rfl rfl ?_ ?_ | refine c_split_i rfl rfl ?_ ?_ | refine c_split_j rfl rfl ?_ ?_ | refine c_split_s rfl rfl ?_ ?_ | refine c_split_n rfl rfl ?_ ?_) <;> intro <;> try (first | (rename_i hz; exact Bool.noConfusion (show true = false from hz)) | (rename_i hz; exact Bool.noConfusion (show false = true from hz)) | (exfalso; omega)))
        | ((first | refine r_val rfl rfl ?_ ?_ | refine r_gval rfl rfl rfl rfl ?_ ?_ | refine r_obj rfl rfl ?_ ?_ | refine r_sto rfl ?_ ?_ | refine r_gobj rfl rfl rfl rfl ?_ ?_); focus (first | omega | exact Nat.le_of_ble_eq_true rfl | (simp only [wrap_u8, IntKind.wrap_i64, IntKind.wrap_i32, wrap_u32', wrap_u64', InI]; (repeat' refine And.intro ?_ ?_) <;> omega) | ((repeat' refine And.intro ?_ ?_) <;> first | omega | rfl | exact Nat.le_refl _ | exact Nat.le_of_ble_eq_true rfl | exact bytesF_one _) | (simp_all; done) | (simp_all; omega)))
        | refine e_hit rfl ?_ | refine e_miss rfl ?_
        | with_reducible refine ⟨by kernel_rfl, ?_⟩ | refine x_endw rfl ?_ | refine n_endw rfl ?_ | ((with_reducible refine c_grd ?_); (fail_if_success (refine c_lit true rfl rfl rfl ?_)); (fail_if_success (refine c_lit false rfl rfl rfl ?_)); refine c_split rfl rfl (fun _ => ?_) (fun _ => ?_)))
      · rename_i hz
        exact absurd hz hs'
      · exact ⟨i + 1, ⟨by omega, by rw [hst, hany, decide_eq_false hs]; rfl⟩, by omega, ⟨rfl, rfl, congrArg (D.i .i64) (by omega), trivial⟩, trivial, rfl, fun q hq => by rw [hX] at hq; simp at hq⟩
  · have : i = vs.length := by omega
    subst this
    rw [List.take_length] at hany
    have hT : tagsA vs = (vs.flatMap tagsV, false) := if_neg (by rw [hany]; exact Bool.false_ne_true)
    rw [hT]
    repeat' (first
      | with_reducible (first | refine t_seq ?_ | refine t_region ?_ | refine c_nil ?_ | refine n_then ?_ | refine t_ret ?_ | refine t_skip ?_ | refine t_exit ?_ | refine t_block ?_ | refine n_block ?_ | refine e_then ?_ | refine x_then ?_ | refine x_block ?_ | refine t_draw ?_)
      | refine r_val rfl rfl True.intro ?_ | refine r_gskip rfl rfl rfl ?_ | refine r_gskip2 rfl rfl rfl ?_ | refine r_gval rfl rfl rfl rfl True.intro ?_
      | refine t_true rfl ?_ | refine t_false rfl ?_
      | ((first | refine t_cond_d rfl ?_ ?_ | refine t_cond_i rfl ?_ ?_ | refine t_cond_j rfl ?_ ?_ | refine t_cond_s rfl ?_ ?_ | refine t_cond_n rfl ?_ ?_ | refine t_cond rfl ?_ ?_ | refine c_split_d rfl rfl ?_ ?_ | refine c_split_i rfl rfl ?_ ?_ | refine c_split_j rfl rfl ?_ ?_ | refine c_split_s rfl rfl ?_ ?_ | refine c_split_n rfl rfl ?_ ?_) <;> intro <;> try (first | (rename_i hz; exact Bool.noConfusion (show true = false from hz)) | (rename_i hz; exact Bool.noConfusion (show false = true from hz)) | (exfalso; omega)))
      | ((first | refine r_val rfl rfl ?_ ?_ | refine r_gval rfl rfl rfl rfl ?_ ?_ | refine r_obj rfl rfl ?_ ?_ | refine r_sto rfl ?_ ?_ | refine r_gobj rfl rfl rfl rfl ?_ ?_); focus (first | omega | exact Nat.le_of_ble_eq_true rfl | (simp only [wrap_u8, IntKind.wrap_i64, IntKind.wrap_i32, wrap_u32', wrap_u64', InI]; (repeat' refine And.intro ?_ ?_) <;> omega) | ((repeat' refine And.intro ?_ ?_) <;> first | omega | rfl | exact Nat.le_refl _ | exact Nat.le_of_ble_eq_true rfl | exact bytesF_one _) | (simp_all; done) | (simp_all; omega)))
      | refine e_hit rfl ?_ | refine e_miss rfl ?_
      | with_reducible refine ⟨by kernel_rfl, ?_⟩ | ((with_reducible refine c_grd ?_); (fail_if_success (refine c_lit true rfl rfl rfl ?_)); (fail_if_success (refine c_lit false rfl rfl rfl ?_)); refine c_split rfl rfl (fun _ => ?_) (fun _ => ?_)))
    refine T.adopt 4 4 9 1 (wxF []) rfl rfl ?_
    refine T.loop hL (fun i : Nat => [(0, .sl 1 vs.length (wxF vs)), (4, .gs 4 1 ((vs.take i).flatMap tagsV).length (wxF ((vs.take i).flatMap tagsV))), (6, .i .i64 i)]) (fun i => [(4, .row 9 1 ((vs.take i).flatMap tagsV).length)]) (fun i => i ≤ vs.length ∧ ((vs.take i).flatMap tagsV).length ≤ i * 100000) (fun i => vs.length - i) 0 ⟨Nat.zero_le _, Nat.zero_le _⟩
      ⟨⟨rfl, rfl, rfl, trivial⟩, ⟨rfl, trivial⟩, rfl, fun q hq => by rw [hX] at hq; simp at hq⟩ ?_
    rintro i ⟨hi, hsz⟩
    by_cases hil : i < vs.length
    · have hst : (vs.take (i + 1)).flatMap tagsV = (vs.take i).flatMap tagsV ++ tagsV (vs.getD i []) := by
        rw [List.take_add_one, List.flatMap_append]
        congr 1
        have : vs[i]? = some (vs.getD i []) := by simp [List.getD_eq_getElem?_getD, hil]
        rw [this]
        simp
      have hnat : (i : Int).toNat = i := Int.toNat_natCast i
      have hvi := hv i
      repeat' (first
        | with_reducible (first | refine t_seq ?_ | refine t_region ?_ | refine c_nil ?_ | refine n_then ?_ | refine t_ret ?_ | refine t_skip ?_ | refine t_exit ?_ | refine t_block ?_ | refine n_block ?_ | refine e_then ?_ | refine x_then ?_ | refine x_block ?_ | refine t_draw ?_)
        | refine r_val rfl rfl True.intro ?_ | refine r_gskip rfl rfl rfl ?_ | refine r_gskip2 rfl rfl rfl ?_ | refine r_gval rfl rfl rfl rfl True.intro ?_
        | refine t_true rfl ?_ | refine t_false rfl ?_
        | ((first | refine t_cond_d rfl ?_ ?_ | refine t_cond_i rfl ?_ ?_ | refine t_cond_j rfl ?_ ?_ | refine t_cond_s rfl ?_ ?_ | refine t_cond_n rfl ?_ ?_ | refine t_cond rfl ?_ ?_ | refine c_split_d rfl rfl ?_ ?_ | refine c_split_i rfl rfl ?_ ?_ | refine c_split_j rfl rfl ?_ ?_ | refine c_split_s rfl rfl ?_ ?_ | refine c_split_n rfl rfl ?_ ?_) <;> intro <;> try (first | (rename_i hz; exact Bool.noConfusion (show true = false from hz)) | (rename_i hz; exact Bool.noConfusion (show false = true from hz)) | (exfalso; omega)))
        | ((first | refine r_val rfl rfl ?_ ?_ | refine r_gval rfl rfl rfl rfl ?_ ?_ | refine r_obj rfl rfl ?_ ?_ | refine r_sto rfl ?_ ?_ | refine r_gobj rfl rfl rfl rfl ?_ ?_); focus (first | omega | exact Nat.le_of_ble_eq_true rfl | (simp only [wrap_u8, IntKind.wrap_i64, IntKind.wrap_i32, wrap_u32', wrap_u64', InI]; (repeat' refine And.intro ?_ ?_) <;> omega) | ((repeat' refine And.intro ?_ ?_) <;> first | omega | rfl | exact Nat.le_refl _ | exact Nat.le_of_ble_eq_true rfl | exact bytesF_one _) | (simp_all; done) | (simp_all; omega)))
        | refine e_hit rfl ?_ | refine e_miss rfl ?_
        | with_reducible refine ⟨by kernel_rfl, ?_⟩ | ((with_reducible refine c_grd ?_); (fail_if_success (refine c_lit true rfl rfl rfl ?_)); (fail_if_success (refine c_lit false rfl rfl rfl ?_)); refine c_split rfl rfl (fun _ => ?_) (fun _ => ?_)))
      rw [hnat]
      generalize vs.getD i [] = s at *
      generalize hF : (vs.take (i + 1)).flatMap tagsV = F at *
      generalize (vs.take i).flatMap tagsV = L at *
      have hfin : ∀ (fr : Fr) (ow : Ow), getD' 0 fr = .sl 1 vs.length (wxF vs) → getD' 4 fr = .gs 4 1 F.length (wxF F) → getD' 6 fr = .i .i64 ((i : Int) + 1) → look 4 ow = some (.row 9 1 F.length) → F.length ≤ (i + 1) * 100000 → ∃ y, (y ≤ vs.length ∧ ((vs.take y).flatMap tagsV).length ≤ y * 100000) ∧ vs.length - y < vs.length - i ∧
          Le X fr ow [(0, .sl 1 vs.length (wxF vs)), (4, .gs 4 1 ((vs.take y).flatMap tagsV).length (wxF ((vs.take y).flatMap tagsV))), (6, .i .i64 y)] [(4, .row 9 1 ((vs.take y).flatMap tagsV).length)] := fun fr ow h1 h2 h3 h4 h5 =>
        ⟨i + 1, by rw [hF]; exact ⟨by omega, h5⟩, by omega, by
          rw [hF]
          exact ⟨⟨h1, h2, h3.trans (congrArg (D.i .i64) (by omega)), trivial⟩, ⟨h4, trivial⟩, rfl, fun q hq => by rw [hX] at hq; simp at hq⟩⟩
      refine T.loop hL (fun x : List (List UInt8) × Nat => [(0, .sl 1 vs.length (wxF vs)), (4, .gs 4 1 x.1.length (wxF x.1)), (6, .i .i64 i), (7, .s s), (8, .i .i64 x.2)]) (fun x => [(4, .row 9 1 x.1.length)])
        (fun x => x.2 ≤ s.length ∧ x.1 ++ tagsV (s.drop x.2) = F ∧ x.1.length ≤ i * 100000 + x.2) (fun x => s.length - x.2) (L, 0) ⟨Nat.zero_le _, by dsimp only; rw [List.drop_zero]; exact hst.symm, Nat.le_trans hsz (Nat.le_add_right _ _)⟩
        ⟨⟨rfl, rfl, rfl, rfl, rfl, trivial⟩, ⟨rfl, trivial⟩, rfl, fun q hq => by rw [hX] at hq; simp at hq⟩ ?_
      clear hst hsz
      rintro ⟨l, a⟩ ⟨ha, hI, hn⟩
      dsimp only at ha hI hn ⊢
      by_cases hal : a < s.length
      · have c1 := blank_ctr (at' s a)
        have hsep := sep3 s a
        cases hb : blB (at' s a) with
        | true =>
          rw [hb] at c1 hsep
          have hp := tags_of_pre (preT_skip hal hsep)
          clear hb hsep
          repeat' (first
            | refine r_call (f := 70) rfl rfl Tryd.call70 rfl c1 ?_
            | with_reducible (first | refine t_seq ?_ | refine t_region ?_ | refine c_nil ?_ | refine n_then ?_ | refine t_ret ?_ | refine t_skip ?_ | refine t_exit ?_ | refine t_block ?_ | refine n_block ?_ | refine e_then ?_ | refine x_then ?_ | refine x_block ?_ | refine t_draw ?_)
            | refine r_val rfl rfl True.intro ?_ | refine r_gskip rfl rfl rfl ?_ | refine r_gskip2 rfl rfl rfl ?_ | refine r_gval rfl rfl rfl rfl True.intro ?_
            | refine t_true rfl ?_ | refine t_false rfl ?_
            | ((first | refine t_cond_d rfl ?_ ?_ | refine t_cond_i rfl ?_ ?_ | refine t_cond_j rfl ?_ ?_ | refine t_cond_s rfl ?_ ?_ | refine t_cond_n rfl ?_ ?_ | refine t_cond rfl ?_ ?_ | refine c_split_d rfl rfl ?_ ?_ | refine c_split_i rfl rfl ?_ ?_ | refine c_split_j rfl rfl ?_ ?_ | refine c_split_s rfl rfl ?_ ?_ | refine c_split_n rfl rfl ?_ ?_) <;> intro <;> try (first | (rename_i hz; exact Bool.noConfusion (show true = false from hz)) | (rename_i hz; exact Bool.noConfusion (show false = true from hz)) | (exfalso; omega)))
            | ((first | refine r_val rfl rfl ?_ ?_ | refine r_gval rfl rfl rfl rfl ?_ ?_ | refine r_obj rfl rfl ?_ ?_ | refine r_sto rfl ?_ ?_ | refine r_gobj rfl rfl rfl rfl ?_ ?_); focus (first | omega | exact Nat.le_of_ble_eq_true rfl | (simp only [wrap_u8, IntKind.wrap_i64, IntKind.wrap_i32, wrap_u32', wrap_u64', InI]; (repeat' refine And.intro ?_ ?_) <;> omega) | ((repeat' refine And.intro ?_ ?_) <;> first | omega | rfl | exact Nat.le_refl _ | exact Nat.le_of_ble_eq_true rfl | exact bytesF_one _) | (simp_all; done) | (simp_all; omega)))
            | refine e_hit rfl ?_ | refine e_miss rfl ?_
            | with_reducible refine ⟨by kernel_rfl, ?_⟩ | ((with_reducible refine c_grd ?_); (fail_if_success (refine c_lit true rfl rfl rfl ?_)); (fail_if_success (refine c_lit false rfl rfl rfl ?_)); refine c_split rfl rfl (fun _ => ?_) (fun _ => ?_)))
          all_goals exact ⟨(l, a + 1), ⟨hal, by dsimp only; rw [← hp]; exact hI, by dsimp only; omega⟩, by dsimp only; omega, ⟨rfl, rfl, rfl, rfl, congrArg (D.i .i64) (by dsimp only; omega), trivial⟩, ⟨rfl, trivial⟩, rfl, fun q hq => by rw [hX] at hq; simp at hq⟩
        | false =>
          rw [hb] at c1 hsep
          by_cases h44 : at' s a = 44
          · have hp := tags_of_pre (preT_skip hal (hsep.trans (by rw [h44]; rfl)))
            clear hb hsep
            repeat' (first
              | refine r_call (f := 70) rfl rfl Tryd.call70 rfl c1 ?_
              | with_reducible (first | refine t_seq ?_ | refine t_region ?_ | refine c_nil ?_ | refine n_then ?_ | refine t_ret ?_ | refine t_skip ?_ | refine t_exit ?_ | refine t_block ?_ | refine n_block ?_ | refine e_then ?_ | refine x_then ?_ | refine x_block ?_ | refine t_draw ?_)
              | refine r_val rfl rfl True.intro ?_ | refine r_gskip rfl rfl rfl ?_ | refine r_gskip2 rfl rfl rfl ?_ | refine r_gval rfl rfl rfl rfl True.intro ?_
              | refine t_true rfl ?_ | refine t_false rfl ?_
              | ((first | refine t_cond_d rfl ?_ ?_ | refine t_cond_i rfl ?_ ?_ | refine t_cond_j rfl ?_ ?_ | refine t_cond_s rfl ?_ ?_ | refine t_cond_n rfl ?_ ?_ | refine t_cond rfl ?_ ?_ | refine c_split_d rfl rfl ?_ ?_ | refine c_split_i rfl rfl ?_ ?_ | refine c_split_j rfl rfl ?_ ?_ | refine c_split_s rfl rfl ?_ ?_ | refine c_split_n rfl rfl ?_ ?_) <;> intro <;> try (first | (rename_i hz; exact Bool.noConfusion (show true = false from hz)) | (rename_i hz; exact Bool.noConfusion (show false = true from hz)) | (exfalso; omega)))
              | ((first | refine r_val rfl rfl ?_ ?_ | refine r_gval rfl rfl rfl rfl ?_ ?_ | refine r_obj rfl rfl ?_ ?_ | refine r_sto rfl ?_ ?_ | refine r_gobj rfl rfl rfl rfl ?_ ?_); focus (first | omega | exact Nat.le_of_ble_eq_true rfl | (simp only [wrap_u8, IntKind.wrap_i64, IntKind.wrap_i32, wrap_u32', wrap_u64', InI]; (repeat' refine And.intro ?_ ?_) <;> omega) | ((repeat' refine And.intro ?_ ?_) <;> first | omega | rfl | exact Nat.le_refl _ | exact Nat.le_of_ble_eq_true rfl | exact bytesF_one _) | (simp_all; done) | (simp_all; omega)))
              | refine e_hit rfl ?_ | refine e_miss rfl ?_
              | with_reducible refine ⟨by kernel_rfl, ?_⟩ | ((with_reducible refine c_grd ?_); (fail_if_success (refine c_lit true rfl rfl rfl ?_)); (fail_if_success (refine c_lit false rfl rfl rfl ?_)); refine c_split rfl rfl (fun _ => ?_) (fun _ => ?_)))
            all_goals exact ⟨(l, a + 1), ⟨hal, by dsimp only; rw [← hp]; exact hI, by dsimp only; omega⟩, by dsimp only; omega, ⟨rfl, rfl, rfl, rfl, congrArg (D.i .i64) (by dsimp only; omega), trivial⟩, ⟨rfl, trivial⟩, rfl, fun q hq => by rw [hX] at hq; simp at hq⟩
          · have hp := preT_stay hal (hsep.trans (by rw [beq_eq_false_iff_ne.2 h44]; rfl))
            have r1 : at' s ((a : Int) + 1) = at' s ((a + 1 : Nat) : Int) := rfl
            have r2 : at' s ((a : Int) + 2) = at' s ((a + 2 : Nat) : Int) := rfl
            clear hb hsep
            generalize hf : (if s.length - a > 2 ∧ at' s a = 87 ∧ at' s (a + 1 : Nat) = 47 ∧ at' s (a + 2 : Nat) = 34 then a + 2 else a) = f at *
            have hfr : (f = a + 2 ∧ s.length - a > 2 ∧ at' s a = 87 ∧ at' s (a + 1 : Nat) = 47 ∧ at' s (a + 2 : Nat) = 34) ∨ (f = a ∧ ¬ (s.length - a > 2 ∧ at' s a = 87 ∧ at' s (a + 1 : Nat) = 47 ∧ at' s (a + 2 : Nat) = 34)) := by
              by_cases h : s.length - a > 2 ∧ at' s a = 87 ∧ at' s (a + 1 : Nat) = 47 ∧ at' s (a + 2 : Nat) = 34
              · rw [if_pos h] at hf
                exact .inl ⟨hf.symm, h⟩
              · rw [if_neg h] at hf
                exact .inr ⟨hf.symm, h⟩
            have hfl : f < s.length := by omega
            have hfa : a ≤ f := by omega
            repeat' (first
              | refine r_mid 16 hL (fun _ : Unit => [(0, .sl 1 vs.length (wxF vs)), (4, .gs 4 1 l.length (wxF l)), (6, .i .i64 i), (7, .s s), (8, .i .i64 a), (9, .i .i64 f)]) (fun _ => [(4, .row 9 1 l.length)]) (fun _ => True) ?_ ?_ | refine r_call (f := 70) rfl rfl Tryd.call70 rfl c1 ?_
              | with_reducible (first | refine t_seq ?_ | refine t_region ?_ | refine c_nil ?_ | refine n_then ?_ | refine t_ret ?_ | refine t_skip ?_ | refine t_exit ?_ | refine t_block ?_ | refine n_block ?_ | refine e_then ?_ | refine x_then ?_ | refine x_block ?_ | refine t_draw ?_)
              | refine r_val rfl rfl True.intro ?_ | refine r_gskip rfl rfl rfl ?_ | refine r_gskip2 rfl rfl rfl ?_ | refine r_gval rfl rfl rfl rfl True.intro ?_
              | refine t_true rfl ?_ | refine t_false rfl ?_
              | ((first | refine t_cond_d rfl ?_ ?_ | refine t_cond_i rfl ?_ ?_ | refine t_cond_j rfl ?_ ?_ | refine t_cond_s rfl ?_ ?_ | refine t_cond_n rfl ?_ ?_ | refine t_cond rfl ?_ ?_ | refine c_split_d rfl rfl ?_ ?_ | refine c_split_i rfl rfl ?_ ?_ | refine c_split_j rfl rfl ?_ ?_ | refine c_split_s rfl rfl ?_ ?_ | refine c_split_n rfl rfl ?_ ?_) <;> intro <;> try (first | (rename_i hz; exact Bool.noConfusion (show true = false from hz)) | (rename_i hz; exact Bool.noConfusion (show false = true from hz)) | (exfalso; omega)))
              | ((first | refine r_val rfl rfl ?_ ?_ | refine r_gval rfl rfl rfl rfl ?_ ?_ | refine r_obj rfl rfl ?_ ?_ | refine r_sto rfl ?_ ?_ | refine r_gobj rfl rfl rfl rfl ?_ ?_); focus (first | omega | exact Nat.le_of_ble_eq_true rfl | (simp only [wrap_u8, IntKind.wrap_i64, IntKind.wrap_i32, wrap_u32', wrap_u64', InI]; (repeat' refine And.intro ?_ ?_) <;> omega) | ((repeat' refine And.intro ?_ ?_) <;> first | omega | rfl | exact Nat.le_refl _ | exact Nat.le_of_ble_eq_true rfl | exact bytesF_one _) | (simp_all; done) | (simp_all; omega)))
              | refine e_hit rfl ?_ | refine e_miss rfl ?_
              | with_reducible refine ⟨by kernel_rfl, ?_⟩ | ((with_reducible refine c_grd ?_); (fail_if_success (refine c_lit true rfl rfl rfl ?_)); (fail_if_success (refine c_lit false rfl rfl rfl ?_)); refine c_split rfl rfl (fun _ => ?_) (fun _ => ?_)))
            all_goals first
              | exact ⟨(), trivial, ⟨rfl, rfl, rfl, rfl, rfl, congrArg (D.i .i64) (by omega), trivial⟩, ⟨rfl, trivial⟩, rfl, fun q hq => by rw [hX] at hq; simp at hq⟩
              | (exfalso; omega)
              | skip
            rintro ⟨⟩ -
            clear hf
            have hmore : okT (s.drop f) → tagsV (s.drop a) = (s.drop f).take (tagN (s.drop f) + 1) :: tagsV ((s.drop f).drop (tagN (s.drop f) + 1)) := fun h => by
              have := tags_more (s := s.drop a) (by rw [hp]; exact h)
              rwa [hp] at this
            have hend : ¬ okT (s.drop f) → tagsV (s.drop a) = [] := fun h => tags_end (by rw [hp]; exact h)
            have hne : ¬ s.drop f = [] := fun h => by
              have := congrArg List.length h
              rw [List.length_drop, List.length_nil] at this
              omega
            have hg0 := dropD s f 0
            by_cases h34 : at' s f = 34
            · have hp34 : (s.drop f).getD 0 0 = 34 := by
                rw [dropD]
                exact (byte34 _).2 (by rw [Nat.add_zero, ← atN]; exact h34)
              have htl := tagN_le hne
              rw [List.length_drop] at htl
              clear hfr r1 r2 c1
              repeat' (first
                | with_reducible (first | refine t_seq ?_ | refine t_region ?_ | refine c_nil ?_ | refine n_then ?_ | refine t_ret ?_ | refine t_skip ?_ | refine t_exit ?_ | refine t_block ?_ | refine n_block ?_ | refine e_then ?_ | refine x_then ?_ | refine x_block ?_ | refine t_draw ?_)
                | refine r_val rfl rfl True.intro ?_ | refine r_gskip rfl rfl rfl ?_ | refine r_gskip2 rfl rfl rfl ?_ | refine r_gval rfl rfl rfl rfl True.intro ?_
                | refine t_true rfl ?_ | refine t_false rfl ?_
                | ((first | refine t_cond_d rfl ?_ ?_ | refine t_cond_i rfl ?_ ?_ | refine t_cond_j rfl ?_ ?_ | refine t_cond_s rfl ?_ ?_ | refine t_cond_n rfl ?_ ?_ | refine t_cond rfl ?_ ?_ | refine c_split_d rfl rfl ?_ ?_ | refine c_split_i rfl rfl ?_ ?_ | refine c_split_j rfl rfl ?_ ?_ | refine c_split_s rfl rfl ?_ ?_ | refine c_split_n rfl rfl ?_ ?_) <;> intro <;> try (first | (rename_i hz; exact Bool.noConfusion (show true = false from hz)) | (rename_i hz; exact Bool.noConfusion (show false = true from hz)) | (exfalso; omega)))
                | ((first | refine r_val rfl rfl ?_ ?_ | refine r_gval rfl rfl rfl rfl ?_ ?_ | refine r_obj rfl rfl ?_ ?_ | refine r_sto rfl ?_ ?_ | refine r_gobj rfl rfl rfl rfl ?_ ?_); focus (first | omega | exact Nat.le_of_ble_eq_true rfl | (simp only [wrap_u8, IntKind.wrap_i64, IntKind.wrap_i32, wrap_u32', wrap_u64', InI]; (repeat' refine And.intro ?_ ?_) <;> omega) | ((repeat' refine And.intro ?_ ?_) <;> first | omega | rfl | exact Nat.le_refl _ | exact Nat.le_of_ble_eq_true rfl | exact bytesF_one _) | (simp_all; done) | (simp_all; omega)))
                | refine e_hit rfl ?_ | refine e_miss rfl ?_
                | with_reducible refine ⟨by kernel_rfl, ?_⟩ | ((with_reducible refine c_grd ?_); (fail_if_success (refine c_lit true rfl rfl rfl ?_)); (fail_if_success (refine c_lit false rfl rfl rfl ?_)); refine c_split rfl rfl (fun _ => ?_) (fun _ => ?_)))
              refine T.loop hL (fun e : Nat => [(0, .sl 1 vs.length (wxF vs)), (4, .gs 4 1 l.length (wxF l)), (6, .i .i64 i), (7, .s s), (8, .i .i64 a), (9, .i .i64 f), (10, .i .i64 (f + e : Nat))]) (fun _ => [(4, .row 9 1 l.length)]) (fun e => 1 ≤ e ∧ e ≤ tagN (s.drop f)) (fun e => s.length - e) 1 ⟨Nat.le_refl _, by unfold tagN; omega⟩
                ⟨⟨rfl, rfl, rfl, rfl, rfl, rfl, rfl, trivial⟩, ⟨rfl, trivial⟩, rfl, fun q hq => by rw [hX] at hq; simp at hq⟩ ?_
              rintro e ⟨he1, he2⟩
              have hde := dropD s f e
              by_cases hel : f + e < s.length
              · have hae := atN s (f + e)
                by_cases hg : tgO ((s.drop f).getD e 0) = true
                · have hgg := of_decide_eq_true hg
                  rw [hde] at hgg
                  have hna : 32 < at' s (f + e : Nat) ∧ ¬ at' s (f + e : Nat) = 127 ∧ ¬ at' s (f + e : Nat) = 34 := by omega
                  have hm := tagN_more he1 he2 (by rw [List.length_drop]; omega) hg
                  clear hgg hae
                  repeat' (first
                    | with_reducible (first | refine t_seq ?_ | refine t_region ?_ | refine c_nil ?_ | refine n_then ?_ | refine t_ret ?_ | refine t_skip ?_ | refine t_exit ?_ | refine t_block ?_ | refine n_block ?_ | refine e_then ?_ | refine x_then ?_ | refine x_block ?_ | refine t_draw ?_)
                    | refine r_val rfl rfl True.intro ?_ | refine r_gskip rfl rfl rfl ?_ | refine r_gskip2 rfl rfl rfl ?_ | refine r_gval rfl rfl rfl rfl True.intro ?_
                    | refine t_true rfl ?_ | refine t_false rfl ?_
                    | ((first | refine t_cond_d rfl ?_ ?_ | refine t_cond_i rfl ?_ ?_ | refine t_cond_j rfl ?_ ?_ | refine t_cond_s rfl ?_ ?_ | refine t_cond_n rfl ?_ ?_ | refine t_cond rfl ?_ ?_ | refine c_split_d rfl rfl ?_ ?_ | refine c_split_i rfl rfl ?_ ?_ | refine c_split_j rfl rfl ?_ ?_ | refine c_split_s rfl rfl ?_ ?_ | refine c_split_n rfl rfl ?_ ?_) <;> intro <;> try (first | (rename_i hz; exact Bool.noConfusion (show true = false from hz)) | (rename_i hz; exact Bool.noConfusion (show false = true from hz)) | (exfalso; omega)))
                    | ((first | refine r_val rfl rfl ?_ ?_ | refine r_gval rfl rfl rfl rfl ?_ ?_ | refine r_obj rfl rfl ?_ ?_ | refine r_sto rfl ?_ ?_ | refine r_gobj rfl rfl rfl rfl ?_ ?_); focus (first | omega | exact Nat.le_of_ble_eq_true rfl | (simp only [wrap_u8, IntKind.wrap_i64, IntKind.wrap_i32, wrap_u32', wrap_u64', InI]; (repeat' refine And.intro ?_ ?_) <;> omega) | ((repeat' refine And.intro ?_ ?_) <;> first | omega | rfl | exact Nat.le_refl _ | exact Nat.le_of_ble_eq_true rfl | exact bytesF_one _) | (simp_all; done) | (simp_all; omega)))
                    | refine e_hit rfl ?_ | refine e_miss rfl ?_
                    | with_reducible refine ⟨by kernel_rfl, ?_⟩ | ((with_reducible refine c_grd ?_); (fail_if_success (refine c_lit true rfl rfl rfl ?_)); (fail_if_success (refine c_lit false rfl rfl rfl ?_)); refine c_split rfl rfl (fun _ => ?_) (fun _ => ?_)))
                  all_goals exact ⟨e + 1, ⟨by omega, hm⟩, by omega, ⟨rfl, rfl, rfl, rfl, rfl, rfl, congrArg (D.i .i64) (by omega), trivial⟩, ⟨rfl, trivial⟩, rfl, fun q hq => by rw [hX] at hq; simp at hq⟩
                · have hg' : tgO ((s.drop f).getD e 0) = false := by simpa using hg
                  have htn : tagN (s.drop f) = e := tagN_stop he1 he2 (.inr hg')
                  have hgg := of_decide_eq_false hg'
                  rw [hde] at hgg
                  by_cases hq : at' s (f + e : Nat) = 34
                  · have hok : okT (s.drop f) := ⟨hne, hp34, by rw [List.length_drop]; omega, by rw [htn, hde]; exact (byte34 _).2 (by rw [← atN]; exact hq)⟩
                    have hmo := hmore hok
                    rw [htn, List.drop_drop] at hmo
                    rw [hmo] at hI
                    clear hgg hae hend hmore
                    repeat' (first
                      | with_reducible (first | refine t_seq ?_ | refine t_region ?_ | refine c_nil ?_ | refine n_then ?_ | refine t_ret ?_ | refine t_skip ?_ | refine t_exit ?_ | refine t_block ?_ | refine n_block ?_ | refine e_then ?_ | refine x_then ?_ | refine x_block ?_ | refine t_draw ?_)
                      | refine r_val rfl rfl True.intro ?_ | refine r_gskip rfl rfl rfl ?_ | refine r_gskip2 rfl rfl rfl ?_ | refine r_gval rfl rfl rfl rfl True.intro ?_
                      | refine t_true rfl ?_ | refine t_false rfl ?_
                      | ((first | refine t_cond_d rfl ?_ ?_ | refine t_cond_i rfl ?_ ?_ | refine t_cond_j rfl ?_ ?_ | refine t_cond_s rfl ?_ ?_ | refine t_cond_n rfl ?_ ?_ | refine t_cond rfl ?_ ?_ | refine c_split_d rfl rfl ?_ ?_ | refine c_split_i rfl rfl ?_ ?_ | refine c_split_j rfl rfl ?_ ?_ | refine c_split_s rfl rfl ?_ ?_ | refine c_split_n rfl rfl ?_ ?_) <;> intro <;> try (first | (rename_i hz; exact Bool.noConfusion (show true = false from hz)) | (rename_i hz; exact Bool.noConfusion (show false = true from hz)) | (exfalso; omega)))
                      | ((first | refine r_val rfl rfl ?_ ?_ | refine r_gval rfl rfl rfl rfl ?_ ?_ | refine r_obj rfl rfl ?_ ?_ | refine r_sto rfl ?_ ?_ | refine r_gobj rfl rfl rfl rfl ?_ ?_); focus (first | omega | exact Nat.le_of_ble_eq_true rfl | (simp only [wrap_u8, IntKind.wrap_i64, IntKind.wrap_i32, wrap_u32', wrap_u64', InI]; (repeat' refine And.intro ?_ ?_) <;> omega) | ((repeat' refine And.intro ?_ ?_) <;> first | omega | rfl | exact Nat.le_refl _ | exact Nat.le_of_ble_eq_true rfl | exact bytesF_one _) | (simp_all; done) | (simp_all; omega)))
                      | refine e_hit rfl ?_ | refine e_miss rfl ?_
                      | with_reducible refine ⟨by kernel_rfl, ?_⟩ | ((with_reducible refine c_grd ?_); (fail_if_success (refine c_lit true rfl rfl rfl ?_)); (fail_if_success (refine c_lit false rfl rfl rfl ?_)); refine c_split rfl rfl (fun _ => ?_) (fun _ => ?_)))
                    have hA : List.drop (f : Int).toNat (List.take (((f + e : Nat) : Int) + 1).toNat s) = (s.drop f).take (e + 1) := by
                      rw [Int.toNat_natCast, show (((f + e : Nat) : Int) + 1).toNat = f + (e + 1) by omega, List.drop_take, Nat.add_sub_cancel_left]
                    have hB : (l ++ [(s.drop f).take (e + 1)]).length = l.length + 1 := by simp
                    have hC : catF l.length (wxF l) 1 (chunk 1 [D.s (List.drop (f : Int).toNat (List.take (((f + e : Nat) : Int) + 1).toNat s))]) = wxF (l ++ [(s.drop f).take (e + 1)]) := by
                      rw [hA]
                      exact catF_wx l _ _ rfl
                    exact ⟨(l ++ [(s.drop f).take (e + 1)], f + (e + 1)), ⟨by dsimp only; omega, by dsimp only; rw [List.append_assoc]; exact hI, by dsimp only; rw [hB]; omega⟩, by dsimp only; omega,
                      ⟨rfl, (by
                        show D.gs 4 1 (l.length + 1) _ = D.gs 4 1 (l ++ [(s.drop f).take (e + 1)]).length (wxF (l ++ [(s.drop f).take (e + 1)]))
                        rw [hB, ← hC]), rfl, rfl, congrArg (D.i .i64) (by dsimp only; omega), trivial⟩, ⟨(by
                        show _ = some (Own.row 9 1 (l ++ [(s.drop f).take (e + 1)]).length)
                        rw [hB]
                        rfl), trivial⟩, rfl, fun q hq => by rw [hX] at hq; simp at hq⟩
                  · have he3 : tagsV (s.drop a) = [] := hend fun q => hq (by
                      rw [atN, ← hde, ← htn, q.2.2.2]
                      rfl)
                    rw [he3, List.append_nil] at hI
                    subst hI
                    have hna : ¬ (32 < at' s (f + e : Nat) ∧ ¬ at' s (f + e : Nat) = 127) := by omega
                    clear hgg hae hend hmore
                    repeat' (first
                      | with_reducible (first | refine t_seq ?_ | refine t_region ?_ | refine c_nil ?_ | refine n_then ?_ | refine t_ret ?_ | refine t_skip ?_ | refine t_exit ?_ | refine t_block ?_ | refine n_block ?_ | refine e_then ?_ | refine x_then ?_ | refine x_block ?_ | refine t_draw ?_)
                      | refine r_val rfl rfl True.intro ?_ | refine r_gskip rfl rfl rfl ?_ | refine r_gskip2 rfl rfl rfl ?_ | refine r_gval rfl rfl rfl rfl True.intro ?_
                      | refine t_true rfl ?_ | refine t_false rfl ?_
                      | ((first | refine t_cond_d rfl ?_ ?_ | refine t_cond_i rfl ?_ ?_ | refine t_cond_j rfl ?_ ?_ | refine t_cond_s rfl ?_ ?_ | refine t_cond_n rfl ?_ ?_ | refine t_cond rfl ?_ ?_ | refine c_split_d rfl rfl ?_ ?_ | refine c_split_i rfl rfl ?_ ?_ | refine c_split_j rfl rfl ?_ ?_ | refine c_split_s rfl rfl ?_ ?_ | refine c_split_n rfl rfl ?_ ?_) <;> intro <;> try (first | (rename_i hz; exact Bool.noConfusion (show true = false from hz)) | (rename_i hz; exact Bool.noConfusion (show false = true from hz)) | (exfalso; omega)))
                      | ((first | refine r_val rfl rfl ?_ ?_ | refine r_gval rfl rfl rfl rfl ?_ ?_ | refine r_obj rfl rfl ?_ ?_ | refine r_sto rfl ?_ ?_ | refine r_gobj rfl rfl rfl rfl ?_ ?_); focus (first | omega | exact Nat.le_of_ble_eq_true rfl | (simp only [wrap_u8, IntKind.wrap_i64, IntKind.wrap_i32, wrap_u32', wrap_u64', InI]; (repeat' refine And.intro ?_ ?_) <;> omega) | ((repeat' refine And.intro ?_ ?_) <;> first | omega | rfl | exact Nat.le_refl _ | exact Nat.le_of_ble_eq_true rfl | exact bytesF_one _) | (simp_all; done) | (simp_all; omega)))
                      | refine e_hit rfl ?_ | refine e_miss rfl ?_
                      | with_reducible refine ⟨by kernel_rfl, ?_⟩ | ((with_reducible refine c_grd ?_); (fail_if_success (refine c_lit true rfl rfl rfl ?_)); (fail_if_success (refine c_lit false rfl rfl rfl ?_)); refine c_split rfl rfl (fun _ => ?_) (fun _ => ?_)))
                    all_goals exact hfin _ _ rfl rfl rfl rfl (by omega)
              · have htn : tagN (s.drop f) = e := by omega
                have he3 : tagsV (s.drop a) = [] := hend fun q => by
                  have := q.2.2.1
                  rw [List.length_drop] at this
                  omega
                rw [he3, List.append_nil] at hI
                subst hI
                clear hend hmore
                repeat' (first
                  | with_reducible (first | refine t_seq ?_ | refine t_region ?_ | refine c_nil ?_ | refine n_then ?_ | refine t_ret ?_ | refine t_skip ?_ | refine t_exit ?_ | refine t_block ?_ | refine n_block ?_ | refine e_then ?_ | refine x_then ?_ | refine x_block ?_ | refine t_draw ?_)
                  | refine r_val rfl rfl True.intro ?_ | refine r_gskip rfl rfl rfl ?_ | refine r_gskip2 rfl rfl rfl ?_ | refine r_gval rfl rfl rfl rfl True.intro ?_
                  | refine t_true rfl ?_ | refine t_false rfl ?_
                  | ((first | refine t_cond_d rfl ?_ ?_ | refine t_cond_i rfl ?_ ?_ | refine t_cond_j rfl ?_ ?_ | refine t_cond_s rfl ?_ ?_ | refine t_cond_n rfl ?_ ?_ | refine t_cond rfl ?_ ?_ | refine c_split_d rfl rfl ?_ ?_ | refine c_split_i rfl rfl ?_ ?_ | refine c_split_j rfl rfl ?_ ?_ | refine c_split_s rfl rfl ?_ ?_ | refine c_split_n rfl rfl ?_ ?_) <;> intro <;> try (first | (rename_i hz; exact Bool.noConfusion (show true = false from hz)) | (rename_i hz; exact Bool.noConfusion (show false = true from hz)) | (exfalso; omega)))
                  | ((first | refine r_val rfl rfl ?_ ?_ | refine r_gval rfl rfl rfl rfl ?_ ?_ | refine r_obj rfl rfl ?_ ?_ | refine r_sto rfl ?_ ?_ | refine r_gobj rfl rfl rfl rfl ?_ ?_); focus (first | omega | exact Nat.le_of_ble_eq_true rfl | (simp only [wrap_u8, IntKind.wrap_i64, IntKind.wrap_i32, wrap_u32', wrap_u64', InI]; (repeat' refine And.intro ?_ ?_) <;> omega) | ((repeat' refine And.intro ?_ ?_) <;> first | omega | rfl | exact Nat.le_refl _ | exact Nat.le_of_ble_eq_true rfl | exact bytesF_one _) | (simp_all; done) | (simp_all; omega)))
                  | refine e_hit rfl ?_ | refine e_miss rfl ?_
                  | with_reducible refine ⟨by kernel_rfl, ?_⟩ | ((with_reducible refine c_grd ?_); (fail_if_success (refine c_lit true rfl rfl rfl ?_)); (fail_if_success (refine c_lit false rfl rfl rfl ?_)); refine c_split rfl rfl (fun _ => ?_) (fun _ => ?_)))
                all_goals exact hfin _ _ rfl rfl rfl rfl (by omega)
            · have he3 : tagsV (s.drop a) = [] := hend fun q => h34 (by
                have h1 := q.2.1
                rw [dropD, Nat.add_zero] at h1
                rw [atN, h1]
                rfl)
              rw [he3, List.append_nil] at hI
              subst hI
              clear hend hmore hfr r1 r2 c1
              repeat' (first
                | with_reducible (first | refine t_seq ?_ | refine t_region ?_ | refine c_nil ?_ | refine n_then ?_ | refine t_ret ?_ | refine t_skip ?_ | refine t_exit ?_ | refine t_block ?_ | refine n_block ?_ | refine e_then ?_ | refine x_then ?_ | refine x_block ?_ | refine t_draw ?_)
                | refine r_val rfl rfl True.intro ?_ | refine r_gskip rfl rfl rfl ?_ | refine r_gskip2 rfl rfl rfl ?_ | refine r_gval rfl rfl rfl rfl True.intro ?_
                | refine t_true rfl ?_ | refine t_false rfl ?_
                | ((first | refine t_cond_d rfl ?_ ?_ | refine t_cond_i rfl ?_ ?_ | refine t_cond_j rfl ?_ ?_ | refine t_cond_s rfl ?_ ?_ | refine t_cond_n rfl ?_ ?_ | refine t_cond rfl ?_ ?_ | refine c_split_d rfl rfl ?_ ?_ | refine c_split_i rfl rfl ?_ ?_ | refine c_split_j rfl rfl ?_ ?_ | refine c_split_s rfl rfl ?_ ?_ | refine c_split_n rfl rfl ?_ ?_) <;> intro <;> try (first | (rename_i hz; exact Bool.noConfusion (show true = false from hz)) | (rename_i hz; exact Bool.noConfusion (show false = true from hz)) | (exfalso; omega)))
                | ((first | refine r_val rfl rfl ?_ ?_ | refine r_gval rfl rfl rfl rfl ?_ ?_ | refine r_obj rfl rfl ?_ ?_ | refine r_sto rfl ?_ ?_ | refine r_gobj rfl rfl rfl rfl ?_ ?_); focus (first | omega | exact Nat.le_of_ble_eq_true rfl | (simp only [wrap_u8, IntKind.wrap_i64, IntKind.wrap_i32, wrap_u32', wrap_u64', InI]; (repeat' refine And.intro ?_ ?_) <;> omega) | ((repeat' refine And.intro ?_ ?_) <;> first | omega | rfl | exact Nat.le_refl _ | exact Nat.le_of_ble_eq_true rfl | exact bytesF_one _) | (simp_all; done) | (simp_all; omega)))
                | refine e_hit rfl ?_ | refine e_miss rfl ?_
                | with_reducible refine ⟨by kernel_rfl, ?_⟩ | ((with_reducible refine c_grd ?_); (fail_if_success (refine c_lit true rfl rfl rfl ?_)); (fail_if_success (refine c_lit false rfl rfl rfl ?_)); refine c_split rfl rfl (fun _ => ?_) (fun _ => ?_)))
              all_goals exact hfin _ _ rfl rfl rfl rfl (by omega)
      · have e : tagsV (s.drop a) = [] := by
          rw [List.drop_eq_nil_of_le (by omega)]
          exact tags_end (by decide +kernel)
        rw [e, List.append_nil] at hI
        subst hI
        repeat' (first
          | with_reducible (first | refine t_seq ?_ | refine t_region ?_ | refine c_nil ?_ | refine n_then ?_ | refine t_ret ?_ | refine t_skip ?_ | refine t_exit ?_ | refine t_block ?_ | refine n_block ?_ | refine e_then ?_ | refine x_then ?_ | refine x_block ?_ | refine t_draw ?_)
          | refine r_val rfl rfl True.intro ?_ | refine r_gskip rfl rfl rfl ?_ | refine r_gskip2 rfl rfl rfl ?_ | refine r_gval rfl rfl rfl rfl True.intro ?_
          | refine t_true rfl ?_ | refine t_false rfl ?_
          | ((first | refine t_cond_d rfl ?_ ?_ | refine t_cond_i rfl ?_ ?_ | refine t_cond_j rfl ?_ ?_ | refine t_cond_s rfl ?_ ?_ | refine t_cond_n rfl ?_ ?_ | refine t_cond rfl ?_ ?_ | refine c_split_d rfl rfl ?_ ?_ | refine c_split_i rfl rfl ?_ ?_ | refine c_split_j rfl rfl ?_ ?_ | refine c_split_s rfl rfl ?_ ?_ | refine c_split_n rfl rfl ?_ ?_) <;> intro <;> try (first | (rename_i hz; exact Bool.noConfusion (show true = false from hz)) | (rename_i hz; exact Bool.noConfusion (show false = true from hz)) | (exfalso; omega)))
          | ((first | refine r_val rfl rfl ?_ ?_ | refine r_gval rfl rfl rfl rfl ?_ ?_ | refine r_obj rfl rfl ?_ ?_ | refine r_sto rfl ?_ ?_ | refine r_gobj rfl rfl rfl rfl ?_ ?_); focus (first | omega | exact Nat.le_of_ble_eq_true rfl | (simp only [wrap_u8, IntKind.wrap_i64, IntKind.wrap_i32, wrap_u32', wrap_u64', InI]; (repeat' refine And.intro ?_ ?_) <;> omega) | ((repeat' refine And.intro ?_ ?_) <;> first | omega | rfl | exact Nat.le_refl _ | exact Nat.le_of_ble_eq_true rfl | exact bytesF_one _) | (simp_all; done) | (simp_all; omega)))
          | refine e_hit rfl ?_ | refine e_miss rfl ?_
          | with_reducible refine ⟨by kernel_rfl, ?_⟩ | ((with_reducible refine c_grd ?_); (fail_if_success (refine c_lit true rfl rfl rfl ?_)); (fail_if_success (refine c_lit false rfl rfl rfl ?_)); refine c_split rfl rfl (fun _ => ?_) (fun _ => ?_)))
        all_goals exact hfin _ _ rfl rfl rfl rfl (by omega)
    · have : i = vs.length := by omega
      subst this
      rw [List.take_length]
      repeat' (first
        | with_reducible (first | refine t_seq ?_ | refine t_region ?_ | refine c_nil ?_ | refine n_then ?_ | refine t_ret ?_ | refine t_skip ?_ | refine t_exit ?_ | refine t_block ?_ | refine n_block ?_ | refine e_then ?_ | refine x_then ?_ | refine x_block ?_ | refine t_draw ?_)
        | refine r_val rfl rfl True.intro ?_ | refine r_gskip rfl rfl rfl ?_ | refine r_gskip2 rfl rfl rfl ?_ | refine r_gval rfl rfl rfl rfl True.intro ?_
        | refine t_true rfl ?_ | refine t_false rfl ?_
        | ((first | refine t_cond_d rfl ?_ ?_ | refine t_cond_i rfl ?_ ?_ | refine t_cond_j rfl ?_ ?_ | refine t_cond_s rfl ?_ ?_ | refine t_cond_n rfl ?_ ?_ | refine t_cond rfl ?_ ?_ | refine c_split_d rfl rfl ?_ ?_ | refine c_split_i rfl rfl ?_ ?_ | refine c_split_j rfl rfl ?_ ?_ | refine c_split_s rfl rfl ?_ ?_ | refine c_split_n rfl rfl ?_ ?_) <;> intro <;> try (first | (rename_i hz; exact Bool.noConfusion (show true = false from hz)) | (rename_i hz; exact Bool.noConfusion (show false = true from hz)) | (exfalso; omega)))
        | ((first | refine r_val rfl rfl ?_ ?_ | refine r_gval rfl rfl rfl rfl ?_ ?_ | refine r_obj rfl rfl ?_ ?_ | refine r_sto rfl ?_ ?_ | refine r_gobj rfl rfl rfl rfl ?_ ?_); focus (first | omega | exact Nat.le_of_ble_eq_true rfl | (simp only [wrap_u8, IntKind.wrap_i64, IntKind.wrap_i32, wrap_u32', wrap_u64', InI]; (repeat' refine And.intro ?_ ?_) <;> omega) | ((repeat' refine And.intro ?_ ?_) <;> first | omega | rfl | exact Nat.le_refl _ | exact Nat.le_of_ble_eq_true rfl | exact bytesF_one _) | (simp_all; done) | (simp_all; omega)))
        | refine e_hit rfl ?_ | refine e_miss rfl ?_
        | with_reducible refine ⟨by kernel_rfl, ?_⟩ | refine x_end rfl ?_ | refine n_end rfl ?_ | ((with_reducible refine c_grd ?_); (fail_if_success (refine c_lit true rfl rfl rfl ?_)); (fail_if_success (refine c_lit false rfl rfl rfl ?_)); refine c_split rfl rfl (fun _ => ?_) (fun _ => ?_)))
      all_goals rfl

/-! ### The same ones? -/
set_option maxRecDepth 100000 in
theorem sameTexts_ctr (l : List (List UInt8)) (hl : l.length ≤ 100000000) : Ctr Tryd.prog 52 [.sl 1 l.length (wxF l), .sl 1 l.length (wxF l)] (.b true) := by
  refine r_fun Tryd.func52 rfl Tryd.ntmps52 Tryd.results52 rfl rfl fun X hL hX => ?_
  repeat' (first
    | with_reducible (first | refine t_seq ?_ | refine t_region ?_ | refine c_nil ?_ | refine n_then ?_ | refine t_ret ?_ | refine t_skip ?_ | refine t_exit ?_ | refine t_block ?_ | refine n_block ?_ | refine e_then ?_ | refine x_then ?_ | refine x_block ?_ | refine t_draw ?_)
    | refine r_val rfl rfl True.intro ?_ | refine r_gskip rfl rfl rfl ?_ | refine r_gskip2 rfl rfl rfl ?_ | refine r_gval rfl rfl rfl rfl True.intro ?_
    | refine t_true rfl ?_ | refine t_false rfl ?_
    | ((first | refine t_cond_d rfl ?_ ?_ | refine t_cond_i rfl ?_ ?_ | refine t_cond_j rfl ?_ ?_ | refine t_cond_s rfl ?_ ?_ | refine t_cond_n rfl ?_ ?_ | refine t_cond rfl ?_ ?_ | refine c_split_d rfl rfl ?_ ?_ | refine c_split_i rfl rfl ?_ ?_ | refine c_split_j rfl rfl ?_ ?_ | refine c_split_s rfl rfl ?_ ?_ | refine c_split_n rfl rfl ?_ ?_) <;> intro <;> try (first | (rename_i hz; exact Bool.noConfusion (show true = false from hz)) | (rename_i hz; exact Bool.noConfusion (show false = true from hz)) | (exfalso; omega)))
    | ((first | refine r_val rfl rfl ?_ ?_ | refine r_gval rfl rfl rfl rfl ?_ ?_ | refine r_obj rfl rfl ?_ ?_ | refine r_sto rfl ?_ ?_ | refine r_gobj rfl rfl rfl rfl ?_ ?_); focus (first | omega | exact Nat.le_of_ble_eq_true rfl | (simp only [wrap_u8, IntKind.wrap_i64, IntKind.wrap_i32, wrap_u32', wrap_u64', InI]; (repeat' refine And.intro ?_ ?_) <;> omega) | ((repeat' refine And.intro ?_ ?_) <;> first | omega | rfl | exact Nat.le_refl _ | exact Nat.le_of_ble_eq_true rfl | exact bytesF_one _) | (simp_all; done) | (simp_all; omega)))
    | refine e_hit rfl ?_ | refine e_miss rfl ?_
    | with_reducible refine ⟨by kernel_rfl, ?_⟩ | refine x_end rfl ?_ | refine n_end rfl ?_ | ((with_reducible refine c_grd ?_); (fail_if_success (refine c_lit true rfl rfl rfl ?_)); (fail_if_success (refine c_lit false rfl rfl rfl ?_)); refine c_split rfl rfl (fun _ => ?_) (fun _ => ?_)))
  refine T.loop hL (fun i : Nat => [(0, .sl 1 l.length (wxF l)), (1, .sl 1 l.length (wxF l)), (5, .i .i64 i)]) (fun _ => []) (fun i => i ≤ l.length) (fun i => l.length - i) 0 (Nat.zero_le _)
    ⟨⟨rfl, rfl, rfl, trivial⟩, trivial, rfl, fun q hq => by rw [hX] at hq; simp at hq⟩ ?_
  intro i hi
  repeat' (first
    | with_reducible (first | refine t_seq ?_ | refine t_region ?_ | refine c_nil ?_ | refine n_then ?_ | refine t_ret ?_ | refine t_skip ?_ | refine t_exit ?_ | refine t_block ?_ | refine n_block ?_ | refine e_then ?_ | refine x_then ?_ | refine x_block ?_ | refine t_draw ?_)
    | refine r_val rfl rfl True.intro ?_ | refine r_gskip rfl rfl rfl ?_ | refine r_gskip2 rfl rfl rfl ?_ | refine r_gval rfl rfl rfl rfl True.intro ?_
    | refine t_true rfl ?_ | refine t_false rfl ?_
    | ((first | refine t_cond_d rfl ?_ ?_ | refine t_cond_i rfl ?_ ?_ | refine t_cond_j rfl ?_ ?_ | refine t_cond_s rfl ?_ ?_ | refine t_cond_n rfl ?_ ?_ | refine t_cond rfl ?_ ?_ | refine c_split_d rfl rfl ?_ ?_ | refine c_split_i rfl rfl ?_ ?_ | refine c_split_j rfl rfl ?_ ?_ | refine c_split_s rfl rfl ?_ ?_ | refine c_split_n rfl rfl ?_ ?_) <;> intro <;> try (first | (rename_i hz; exact Bool.noConfusion (show true = false from hz)) | (rename_i hz; exact Bool.noConfusion (show false = true from hz)) | (exfalso; omega)))
    | ((first | refine r_val rfl rfl ?_ ?_ | refine r_gval rfl rfl rfl rfl ?_ ?_ | refine r_obj rfl rfl ?_ ?_ | refine r_sto rfl ?_ ?_ | refine r_gobj rfl rfl rfl rfl ?_ ?_); focus (first | omega | exact Nat.le_of_ble_eq_true rfl | (simp only [wrap_u8, IntKind.wrap_i64, IntKind.wrap_i32, wrap_u32', wrap_u64', InI]; (repeat' refine And.intro ?_ ?_) <;> omega) | ((repeat' refine And.intro ?_ ?_) <;> first | omega | rfl | exact Nat.le_refl _ | exact Nat.le_of_ble_eq_true rfl | exact bytesF_one _) | (simp_all; done) | (simp_all; omega)))
    | refine e_hit rfl ?_ | refine e_miss rfl ?_
    | with_reducible refine ⟨by kernel_rfl, ?_⟩ | refine x_end rfl ?_ | refine n_end rfl ?_ | ((with_reducible refine c_grd ?_); (fail_if_success (refine c_lit true rfl rfl rfl ?_)); (fail_if_success (refine c_lit false rfl rfl rfl ?_)); refine c_split rfl rfl (fun _ => ?_) (fun _ => ?_)))
  all_goals first
    | rfl
    | (exfalso; rename_i q; simp at q; done)
    | exact ⟨i + 1, by omega, by omega, ⟨rfl, rfl, congrArg (D.i .i64) (by omega), trivial⟩, trivial, rfl, fun q hq => by rw [hX] at hq; simp at hq⟩

set_option maxRecDepth 100000 in
theorem same_ctr (m p : List UInt8) (g a : Bool) (t : List (List UInt8)) (ht : t.length ≤ 100000000) : Ctr Tryd.prog 21 [.ag [.s m, .s p, .b g, .b a, .sl 1 t.length (wxF t)], .ag [.s m, .s p, .b g, .b a, .sl 1 t.length (wxF t)]] (.b true) := by
  have c1 := sameTexts_ctr t ht
  refine r_fun Tryd.func21 rfl Tryd.ntmps21 Tryd.results21 rfl rfl fun X hL hX => ?_
  repeat' (first
    | refine r_call (f := 52) rfl rfl Tryd.call52 rfl c1 ?_
    | with_reducible (first | refine t_seq ?_ | refine t_region ?_ | refine c_nil ?_ | refine n_then ?_ | refine t_ret ?_ | refine t_skip ?_ | refine t_exit ?_ | refine t_block ?_ | refine n_block ?_ | refine e_then ?_ | refine x_then ?_ | refine x_block ?_ | refine t_draw ?_)
    | refine r_val rfl rfl True.intro ?_ | refine r_gskip rfl rfl rfl ?_ | refine r_gskip2 rfl rfl rfl ?_ | refine r_gval rfl rfl rfl rfl True.intro ?_
    | refine t_true rfl ?_ | refine t_false rfl ?_
    | ((first | refine t_cond_d rfl ?_ ?_ | refine t_cond_i rfl ?_ ?_ | refine t_cond_j rfl ?_ ?_ | refine t_cond_s rfl ?_ ?_ | refine t_cond_n rfl ?_ ?_ | refine t_cond rfl ?_ ?_ | refine c_split_d rfl rfl ?_ ?_ | refine c_split_i rfl rfl ?_ ?_ | refine c_split_j rfl rfl ?_ ?_ | refine c_split_s rfl rfl ?_ ?_ | refine c_split_n rfl rfl ?_ ?_) <;> intro <;> try (first | (rename_i hz; exact Bool.noConfusion (show true = false from hz)) | (rename_i hz; exact Bool.noConfusion (show false = true from hz)) | (exfalso; omega)))
    | ((first | refine r_val rfl rfl ?_ ?_ | refine r_gval rfl rfl rfl rfl ?_ ?_ | refine r_obj rfl rfl ?_ ?_ | refine r_sto rfl ?_ ?_ | refine r_gobj rfl rfl rfl rfl ?_ ?_); focus (first | omega | exact Nat.le_of_ble_eq_true rfl | (simp only [wrap_u8, IntKind.wrap_i64, IntKind.wrap_i32, wrap_u32', wrap_u64', InI]; (repeat' refine And.intro ?_ ?_) <;> omega) | ((repeat' refine And.intro ?_ ?_) <;> first | omega | rfl | exact Nat.le_refl _ | exact Nat.le_of_ble_eq_true rfl | exact bytesF_one _) | (simp_all; done) | (simp_all; omega)))
    | refine e_hit rfl ?_ | refine e_miss rfl ?_
    | with_reducible refine ⟨by kernel_rfl, ?_⟩ | refine x_end rfl ?_ | refine n_end rfl ?_ | ((with_reducible refine c_grd ?_); (fail_if_success (refine c_lit true rfl rfl rfl ?_)); (fail_if_success (refine c_lit false rfl rfl rfl ?_)); refine c_split rfl rfl (fun _ => ?_) (fun _ => ?_)))
  all_goals first
    | rfl
    | (exfalso; simp only [beq_self_eq_true, Bool.not_true, Bool.true_eq_false, Bool.false_eq_true, Bool.not_false] at *; done)
theorem same0_ctr : Ctr Tryd.prog 21 [.ag [.s [], .s [], .b false, .b false, .nilS], .ag [.s [], .s [], .b false, .b false, .nilS]] (.b true) :=
  (same_ctr [] [] false false [] (by decide)).weak2 (.ag _ _ rfl fun j hj => match j, hj with
    | 0, _ => .refl _
    | 1, _ => .refl _
    | 2, _ => .refl _
    | 3, _ => .refl _
    | 4, _ => .nil 1 _) (.ag _ _ rfl fun j hj => match j, hj with
    | 0, _ => .refl _
    | 1, _ => .refl _
    | 2, _ => .refl _
    | 3, _ => .refl _
    | 4, _ => .nil 1 _)

end Go.Proofs.YtghdgjabpdfaoaaDoor.Flow

/- REQ: lines and headers (plain): what the document's way and the program's have in common. -/
namespace Go.Proofs.YtghdgjabpdfaoaaDoor.Flow
open Go

/-! ### Lines -/
def linR (l : List (List UInt8)) (s : List UInt8) : List UInt8 → List (List UInt8) × Bool
  | [] => ([], false)
  | c :: r => if c = 13 ∧ r.getD 0 0 = 10 then (if s = [] ∧ ¬ l = [] then (l, decide (r.length = 1)) else linR (l ++ [s]) [] (r.drop 1))
    else if c = 13 ∨ c = 10 then ([], false) else linR l (s ++ [c]) r
termination_by x => x.length
decreasing_by
  · simp [List.length_drop]; omega
  · simp
def splitX : List UInt8 → List (List UInt8)
  | [] => [[]]
  | c :: r => if c = 13 ∧ r.getD 0 0 = 10 then [] :: splitX (r.drop 1) else match splitX r with
    | [] => [[c]]
    | p :: ps => (c :: p) :: ps
termination_by x => x.length
decreasing_by
  · simp [List.length_drop]; omega
  · simp
theorem linR_hit {l : List (List UInt8)} {s r : List UInt8} {c : UInt8} (h : c = 13 ∧ r.getD 0 0 = 10) : linR l s (c :: r) = if s = [] ∧ ¬ l = [] then (l, decide (r.length = 1)) else linR (l ++ [s]) [] (r.drop 1) := by
  conv => lhs; unfold linR
  rw [if_pos h]
theorem linR_bad {l : List (List UInt8)} {s r : List UInt8} {c : UInt8} (h : ¬ (c = 13 ∧ r.getD 0 0 = 10)) (h2 : c = 13 ∨ c = 10) : linR l s (c :: r) = ([], false) := by
  conv => lhs; unfold linR
  rw [if_neg h, if_pos h2]
theorem linR_go {l : List (List UInt8)} {s r : List UInt8} {c : UInt8} (h2 : ¬ (c = 13 ∨ c = 10)) : linR l s (c :: r) = linR l (s ++ [c]) r := by
  conv => lhs; unfold linR
  rw [if_neg (fun q => h2 (.inl q.1)), if_neg h2]
theorem linR_nil {l : List (List UInt8)} {s : List UInt8} : linR l s [] = ([], false) := by unfold linR; rfl
theorem splitX_hit {r : List UInt8} {c : UInt8} (h : c = 13 ∧ r.getD 0 0 = 10) : splitX (c :: r) = [] :: splitX (r.drop 1) := by
  conv => lhs; unfold splitX
  rw [if_pos h]
theorem splitX_go {r : List UInt8} {c : UInt8} (h : ¬ (c = 13 ∧ r.getD 0 0 = 10)) : splitX (c :: r) = match splitX r with
    | [] => [[c]]
    | p :: ps => (c :: p) :: ps := by
  conv => lhs; unfold splitX
  rw [if_neg h]
theorem splitX_nil : splitX [] = [[]] := by unfold splitX; rfl
theorem splitX_cons : ∀ b : List UInt8, ∃ p ps, splitX b = p :: ps
  | [] => ⟨[], [], splitX_nil⟩
  | c :: r => by
    by_cases h : c = 13 ∧ r.getD 0 0 = 10
    · exact ⟨_, _, splitX_hit h⟩
    · obtain ⟨p, ps, e⟩ := splitX_cons r
      rw [splitX_go h, e]
      exact ⟨_, _, rfl⟩
theorem splitX_one {b : List UInt8} (h : splitX b = [[]]) : b = [] := by
  cases b with
  | nil => rfl
  | cons c r =>
    by_cases hc : c = 13 ∧ r.getD 0 0 = 10
    · rw [splitX_hit hc] at h
      obtain ⟨p, ps, e⟩ := splitX_cons (r.drop 1)
      rw [e] at h
      simp at h
    · rw [splitX_go hc] at h
      obtain ⟨p, ps, e⟩ := splitX_cons r
      rw [e] at h
      simp at h

theorem pre_crlf {c : UInt8} {r : List UInt8} : ([13, 10] : List UInt8).isPrefixOf (c :: r) = true ↔ (c = 13 ∧ r.getD 0 0 = 10) := by
  cases r with
  | nil => simp
  | cons d r =>
    simp
    constructor
    · rintro ⟨rfl, rfl⟩
      exact ⟨rfl, rfl⟩
    · rintro ⟨rfl, rfl⟩
      exact ⟨rfl, rfl⟩
theorem splitL_X : ∀ (n : Nat) (b : List UInt8), b.length ≤ n → splitL b crlf = splitX b
  | 0, b, h => by
    have : b = [] := List.length_eq_zero_iff.1 (by omega)
    subst this
    rw [splitX_nil, splitL_eq _ _ (by decide)]
    exact if_pos rfl
  | n + 1, [], _ => by
    rw [splitX_nil, splitL_eq _ _ (by decide)]
    exact if_pos rfl
  | n + 1, c :: r, h => by
    have hr := splitL_X n r (by simpa using h)
    rw [splitL_eq _ _ (by decide)]
    by_cases hc : c = 13 ∧ r.getD 0 0 = 10
    · have e : Lib.index (c :: r) crlf = 0 := by
        unfold Lib.index
        exact if_pos (pre_crlf.2 hc)
      rw [e, if_neg (by decide), splitX_hit hc]
      have hd := splitL_X n (r.drop 1) (by rw [List.length_drop]; simp at h; omega)
      show [] :: splitL ((c :: r).drop (0 + 2)) crlf = _
      rw [← hd]
      rfl
    · have e : Lib.index (c :: r) crlf = if Lib.index r crlf == -1 then -1 else Lib.index r crlf + 1 := by
        conv => lhs; unfold Lib.index
        exact if_neg (fun q => hc (pre_crlf.1 q))
      rw [splitX_go hc, ← hr, splitL_eq r _ (by decide), e]
      have hge := Lib.index_ge r crlf
      by_cases hi : Lib.index r crlf = -1
      · rw [hi]
        rfl
      · obtain ⟨i, hi2⟩ : ∃ i : Nat, Lib.index r crlf = i := ⟨(Lib.index r crlf).toNat, by omega⟩
        have e' : Lib.index (c :: r) crlf = i + 1 := by rw [e, hi2, if_neg (by simp)]
        rw [← e, e', hi2, if_neg (by omega), if_neg (by omega)]
        have e1 : ((i : Int) + 1).toNat = i + 1 := rfl
        rw [e1, Int.toNat_natCast]
        show (c :: r.take i) :: splitL ((c :: r).drop (i + 1 + 2)) crlf = (c :: r.take i) :: splitL (r.drop (i + 2)) crlf
        rw [show i + 1 + 2 = (i + 2) + 1 by omega, List.drop_succ_cons]

def cleanB (p : List UInt8) : Bool := p.all fun c => decide (¬ (c = 13 ∨ c = 10))
theorem clean_any : ∀ s : List UInt8, Lib.containsAny s crlf = !cleanB s := by
  have key : ∀ s : List UInt8, (0 ≤ Lib.indexAny s crlf) ↔ cleanB s = false := by
    intro s
    induction s with
    | nil => simp [Lib.indexAny, cleanB]
    | cons c s ih =>
      have hge := Lib.indexAny_ge crlf s
      unfold Lib.indexAny cleanB
      rw [List.all_cons]
      by_cases hc : c = 13 ∨ c = 10
      · rw [if_pos (by unfold crlf; simpa using hc), decide_eq_false (fun q => q hc)]
        simp
      · rw [if_neg (by unfold crlf; simpa using hc), decide_eq_true hc, Bool.true_and]
        show _ ↔ cleanB s = false
        rw [← ih]
        by_cases h : Lib.indexAny s crlf = -1
        · rw [h]
          decide
        · rw [if_neg (by simpa using h)]
          omega
  intro s
  unfold Lib.containsAny
  cases h : cleanB s with
  | true => exact decide_eq_false (fun q => by rw [(key s).1 q] at h; cases h)
  | false => exact decide_eq_true ((key s).2 h)

/-- The document's way, piece by piece. -/
def goP (l : List (List UInt8)) (s : List UInt8) : List (List UInt8) → List (List UInt8) × Bool
  | p :: q :: ps => if cleanB p = true then (if s ++ p = [] ∧ ¬ l = [] then (l, decide (q :: ps = [[]])) else goP (l ++ [s ++ p]) [] (q :: ps)) else ([], false)
  | _ => ([], false)
theorem linR_goP : ∀ (n : Nat) (b : List UInt8) (l : List (List UInt8)) (s : List UInt8), b.length ≤ n → linR l s b = goP l s (splitX b)
  | _, [], l, s, _ => by
    rw [linR_nil, splitX_nil]
    rfl
  | 0, c :: r, l, s, h => by simp at h
  | n + 1, c :: r, l, s, h => by
    by_cases hc : c = 13 ∧ r.getD 0 0 = 10
    · rw [linR_hit hc, splitX_hit hc]
      have ih := linR_goP n (r.drop 1) (l ++ [s]) [] (by rw [List.length_drop]; simp at h; omega)
      have h1 : decide (r.length = 1) = decide (splitX (r.drop 1) = [[]]) := by
        have hr : 0 < r.length := by
          cases r with
          | nil => simp at hc
          | cons => simp
        rw [decide_eq_decide]
        constructor
        · intro e
          rw [List.drop_eq_nil_of_le (by omega), splitX_nil]
        · intro e
          have := congrArg List.length (splitX_one e)
          rw [List.length_drop, List.length_nil] at this
          omega
      rw [h1, ih]
      obtain ⟨p, ps, e⟩ := splitX_cons (r.drop 1)
      rw [e]
      show _ = if cleanB [] = true then (if s ++ [] = [] ∧ ¬ l = [] then (l, decide (p :: ps = [[]])) else goP (l ++ [s ++ []]) [] (p :: ps)) else ([], false)
      rw [if_pos (show cleanB [] = true from rfl), List.append_nil]
    · rw [splitX_go hc]
      obtain ⟨p, ps, e⟩ := splitX_cons r
      by_cases h2 : c = 13 ∨ c = 10
      · rw [linR_bad hc h2, e]
        dsimp only
        cases ps with
        | nil => rfl
        | cons q ps =>
          have hcl : ¬ cleanB (c :: p) = true := by
            unfold cleanB
            rw [List.all_cons, decide_eq_false (fun q => q h2)]
            simp
          exact (if_neg hcl).symm
      · rw [linR_go h2, linR_goP n r l (s ++ [c]) (by simpa using h), e]
        dsimp only
        cases ps with
        | nil => rfl
        | cons q ps =>
          have hcl : cleanB (c :: p) = cleanB p := by
            unfold cleanB
            rw [List.all_cons, decide_eq_true h2, Bool.true_and]
          show (if cleanB p = true then (if (s ++ [c]) ++ p = [] ∧ ¬ l = [] then (l, decide (q :: ps = [[]])) else goP (l ++ [(s ++ [c]) ++ p]) [] (q :: ps)) else ([], false)) = if cleanB (c :: p) = true then (if s ++ (c :: p) = [] ∧ ¬ l = [] then (l, decide (q :: ps = [[]])) else goP (l ++ [s ++ (c :: p)]) [] (q :: ps)) else ([], false)
          rw [hcl, List.append_assoc]
          rfl

theorem split_app : ∀ (n : Nat) (x r : List UInt8), x.length ≤ n → splitX (x ++ 13 :: 10 :: r) = splitX x ++ splitX r
  | _, [], r, _ => by
    rw [splitX_nil]
    exact splitX_hit ⟨rfl, rfl⟩
  | 0, c :: x, r, h => by simp at h
  | n + 1, c :: x, r, h => by
    have hhead : (c = 13 ∧ (x ++ 13 :: 10 :: r).getD 0 0 = 10) ↔ (c = 13 ∧ x.getD 0 0 = 10) := by
      cases x with
      | nil => simp
      | cons d x => simp
    rw [List.cons_append]
    by_cases hc : c = 13 ∧ x.getD 0 0 = 10
    · rw [splitX_hit hc, splitX_hit (hhead.2 hc)]
      have hx : 0 < x.length := by
        cases x with
        | nil => simp at hc
        | cons => simp
      rw [List.drop_append_of_le_length (by omega), split_app n (x.drop 1) r (by rw [List.length_drop]; simp at h; omega)]
      rfl
    · rw [splitX_go hc, splitX_go (fun q => hc (hhead.1 q)), split_app n x r (by simpa using h)]
      obtain ⟨p, ps, e⟩ := splitX_cons x
      rw [e]
      rfl
def joinX : List (List UInt8) → List UInt8
  | [] => []
  | [p] => p
  | p :: q :: ps => p ++ 13 :: 10 :: joinX (q :: ps)
theorem join_split : ∀ (n : Nat) (b : List UInt8), b.length ≤ n → joinX (splitX b) = b
  | _, [], _ => by rw [splitX_nil]; rfl
  | 0, c :: r, h => by simp at h
  | n + 1, c :: r, h => by
    by_cases hc : c = 13 ∧ r.getD 0 0 = 10
    · rw [splitX_hit hc]
      have ih := join_split n (r.drop 1) (by rw [List.length_drop]; simp at h; omega)
      obtain ⟨p, ps, e⟩ := splitX_cons (r.drop 1)
      rw [e] at ih ⊢
      show 13 :: 10 :: joinX (p :: ps) = _
      rw [ih]
      cases r with
      | nil => simp at hc
      | cons d r =>
        have hd : d = 10 := hc.2
        rw [hc.1, hd]
        rfl
    · rw [splitX_go hc]
      have ih := join_split n r (by simpa using h)
      obtain ⟨p, ps, e⟩ := splitX_cons r
      rw [e] at ih ⊢
      dsimp only
      cases ps with
      | nil => exact congrArg (c :: ·) ih
      | cons q ps => exact congrArg (c :: ·) ih
theorem join_end : ∀ {ps : List (List UInt8)}, ¬ ps = [] → joinX (ps ++ [[], []]) = joinX ps ++ end4
  | [], h => absurd rfl h
  | [p], _ => rfl
  | p :: q :: ps, _ => by
    show p ++ 13 :: 10 :: joinX ((q :: ps) ++ [[], []]) = (p ++ 13 :: 10 :: joinX (q :: ps)) ++ end4
    rw [join_end (by simp), List.append_assoc]
    rfl

theorem goP_clean : ∀ {ps l : List (List UInt8)}, ¬ l = [] → ps.all cleanB = true → (ps.all (fun p => !p.isEmpty) = true → goP l [] (ps ++ [[], []]) = (l ++ ps, true)) ∧ (ps.all (fun p => !p.isEmpty) = false → (goP l [] (ps ++ [[], []])).2 = false)
  | [], l, hl, _ => ⟨fun _ => by
      show (if cleanB [] = true then (if [] ++ [] = [] ∧ ¬ l = [] then (l, decide ([[]] = [[]])) else goP (l ++ [[] ++ []]) [] [[]]) else ([], false)) = _
      rw [if_pos (show cleanB [] = true from rfl), if_pos ⟨rfl, hl⟩, List.append_nil]
      rfl, fun h => by cases h⟩
  | p :: ps, l, hl, hc => by
    rw [List.all_cons, Bool.and_eq_true] at hc
    obtain ⟨q, qs, e⟩ : ∃ q qs, ps ++ [[], []] = q :: qs := by
      cases ps with
      | nil => exact ⟨[], [[]], rfl⟩
      | cons q qs => exact ⟨q, qs ++ [[], []], rfl⟩
    have hstep : goP l [] ((p :: ps) ++ [[], []]) = if p = [] then (l, decide (q :: qs = [[]])) else goP (l ++ [p]) [] (ps ++ [[], []]) := by
      rw [List.cons_append, e]
      show (if cleanB p = true then (if [] ++ p = [] ∧ ¬ l = [] then (l, decide (q :: qs = [[]])) else goP (l ++ [[] ++ p]) [] (q :: qs)) else ([], false)) = _
      rw [if_pos hc.1, List.nil_append]
      by_cases hp : p = []
      · rw [if_pos ⟨hp, hl⟩, if_pos hp]
      · rw [if_neg (fun q => hp q.1), if_neg hp]
    have ih := goP_clean (ps := ps) (l := l ++ [p]) (by simp) hc.2
    rw [hstep, List.all_cons]
    by_cases hp : p = []
    · rw [if_pos hp]
      subst hp
      refine ⟨fun h => by simp at h, fun _ => ?_⟩
      refine decide_eq_false fun h => ?_
      have h2 := congrArg List.length (e.trans h)
      simp at h2
    · rw [if_neg hp]
      have hne : (!p.isEmpty) = true := by
        cases p with
        | nil => exact absurd rfl hp
        | cons => rfl
      rw [hne, Bool.true_and]
      refine ⟨fun h => ?_, ih.2⟩
      rw [ih.1 h, List.append_assoc]
      rfl
theorem goP_true : ∀ {ps l : List (List UInt8)} {s : List UInt8} {x : List (List UInt8)}, goP l s ps = (x, true) → ∃ ps', ps = ps' ++ [[], []] ∧ ps'.all cleanB = true ∧ (l = [] → ¬ ps' = [])
  | [], l, s, x, h => by cases h
  | [p], l, s, x, h => by cases h
  | p :: q :: ps, l, s, x, h => by
    have h : (if cleanB p = true then (if s ++ p = [] ∧ ¬ l = [] then (l, decide (q :: ps = [[]])) else goP (l ++ [s ++ p]) [] (q :: ps)) else ([], false)) = (x, true) := h
    by_cases hc : cleanB p = true
    · rw [if_pos hc] at h
      by_cases h1 : s ++ p = [] ∧ ¬ l = []
      · rw [if_pos h1] at h
        have h2 : q :: ps = [[]] := of_decide_eq_true (congrArg Prod.snd h)
        have h3 : p = [] := (List.append_eq_nil_iff.1 h1.1).2
        exact ⟨[], by rw [h2, h3]; rfl, rfl, fun e => absurd e h1.2⟩
      · rw [if_neg h1] at h
        obtain ⟨ps', e, h2, _⟩ := goP_true h
        exact ⟨p :: ps', by rw [e]; rfl, by rw [List.all_cons, hc, h2]; rfl, fun _ => by simp⟩
    · rw [if_neg hc] at h
      cases h

theorem sfx4 {x : List UInt8} : Lib.hasSuffix (x ++ end4) end4 = true := by
  unfold Lib.hasSuffix
  rw [List.isSuffixOf_iff_suffix]
  exact ⟨x, rfl⟩
/-- Both ways of taking lines. -/
theorem lines_both (b : List UInt8) (hb : b.length ≤ 8192) : match linP b with
    | some ls => ¬ ls = [] ∧ ((ls.drop 1).all (fun p => !p.isEmpty) = true → linR [] [] b = (ls, true)) ∧ ((ls.drop 1).all (fun p => !p.isEmpty) = false → (linR [] [] b).2 = false)
    | none => (linR [] [] b).2 = false := by
  have hgo := linR_goP _ b [] [] (Nat.le_refl _)
  rw [hgo]
  have hall : ∀ l : List (List UInt8), l.all (fun s => !Lib.containsAny s crlf) = l.all cleanB := fun l => by
    congr 1
    funext s
    rw [clean_any, Bool.not_not]
  by_cases hs : Lib.hasSuffix b end4 = true
  · obtain ⟨x, rfl⟩ : ∃ x, b = x ++ end4 := by
      unfold Lib.hasSuffix at hs
      rw [List.isSuffixOf_iff_suffix] at hs
      obtain ⟨x, h⟩ := hs
      exact ⟨x, h.symm⟩
    have ht : (x ++ end4).take ((x ++ end4).length - 4) = x := by
      rw [List.length_append, show x.length + end4.length - 4 = x.length from Nat.add_sub_cancel .., List.take_left]
    have hsp : splitX (x ++ end4) = splitX x ++ [[], []] := by
      have := split_app _ x [13, 10] (Nat.le_refl _)
      rw [show splitX [13, 10] = [[], []] by rw [splitX_hit ⟨rfl, rfl⟩]; exact congrArg ([] :: ·) splitX_nil] at this
      exact this
    rw [hsp]
    have hl : linP (x ++ end4) = if (splitX x).all cleanB = true then some (splitX x) else none := by
      unfold linP
      rw [if_pos ⟨hb, hs⟩, ht, splitL_X _ x (Nat.le_refl _), hall]
    rw [hl]
    obtain ⟨p, ps, e⟩ := splitX_cons x
    rw [e]
    by_cases hc : (p :: ps).all cleanB = true
    · rw [if_pos hc]
      dsimp only
      rw [List.all_cons, Bool.and_eq_true] at hc
      have hstep : goP [] [] ((p :: ps) ++ [[], []]) = goP [p] [] (ps ++ [[], []]) := by
        obtain ⟨q, qs, e⟩ : ∃ q qs, ps ++ [[], []] = q :: qs := by
          cases ps with
          | nil => exact ⟨[], [[]], rfl⟩
          | cons q qs => exact ⟨q, qs ++ [[], []], rfl⟩
        rw [List.cons_append, e]
        show (if cleanB p = true then (if [] ++ p = [] ∧ ¬ ([] : List (List UInt8)) = [] then ([], decide (q :: qs = [[]])) else goP ([] ++ [[] ++ p]) [] (q :: qs)) else ([], false)) = _
        rw [if_pos hc.1, if_neg (fun q => q.2 rfl)]
        rfl
      have h := goP_clean (ps := ps) (l := [p]) (by simp) hc.2
      rw [hstep]
      exact ⟨by simp, h.1, h.2⟩
    · rw [if_neg hc]
      dsimp only
      cases hg : goP [] [] ((p :: ps) ++ [[], []]) with
      | mk y ok =>
        cases ok with
        | false => rfl
        | true =>
          obtain ⟨ps', e2, h2, _⟩ := goP_true hg
          rw [List.append_cancel_right e2] at hc
          exact absurd h2 hc
  · have hl : linP b = none := if_neg fun q => hs q.2
    rw [hl]
    dsimp only
    cases hg : goP [] [] (splitX b) with
    | mk y ok =>
      cases ok with
      | false => rfl
      | true =>
        obtain ⟨ps', e2, h2, h3⟩ := goP_true hg
        have hj := join_split _ b (Nat.le_refl _)
        rw [e2, join_end (h3 rfl)] at hj
        rw [← hj] at hs
        exact absurd sfx4 hs

end Go.Proofs.YtghdgjabpdfaoaaDoor.Flow

/- REQ: headers (plain): both ways of reading them. -/
namespace Go.Proofs.YtghdgjabpdfaoaaDoor.Flow
open Go

abbrev Hv := List (List UInt8 × List UInt8)
/-- The headers' names and values. -/
def hdvs : List (List UInt8) → Option Hv
  | [] => some []
  | s :: r => if (hdrP s).2.2 = true then (hdvs r).map (((hdrP s).1, (hdrP s).2.1) :: ·) else none
def vof (k : List UInt8) (L : Hv) : List (List UInt8) := (L.filter fun p => decide (p.1 = k)).map (·.2)
theorem vof_cons (k : List UInt8) (p : List UInt8 × List UInt8) (L : Hv) : vof k (p :: L) = if p.1 = k then p.2 :: vof k L else vof k L := by
  unfold vof
  rw [List.filter_cons]
  by_cases h : p.1 = k
  · rw [if_pos (by simpa using h), if_pos h]
    rfl
  · rw [if_neg (by simpa using h), if_neg h]
theorem vof_app (k : List UInt8) (L M : Hv) : vof k (L ++ M) = vof k L ++ vof k M := by
  unfold vof
  rw [List.filter_append, List.map_append]
def addAll (hs : Hdl) (L : Hv) : Hdl := L.foldl (fun hs p => addH p.1 p.2 hs) hs
theorem hds_eq : ∀ (l : List (List UInt8)) (hs : Hdl), hdsP hs l = (hdvs l).map (addAll hs)
  | [], hs => rfl
  | s :: r, hs => by
    unfold hdsP hdvs
    by_cases h : (hdrP s).2.2 = true
    · rw [if_pos h, if_pos h, hds_eq r]
      cases hdvs r <;> rfl
    · rw [if_neg h, if_neg h]
      rfl
theorem get_add (k key v : List UInt8) : ∀ hs : Hdl, getH k (addH key v hs) = if key = k then getH k hs ++ [v] else getH k hs
  | [] => by
    unfold addH
    show (if key = k then [v] else getH k []) = _
    rfl
  | p :: r => by
    have ih := get_add k key v r
    unfold addH
    by_cases h : p.1 = key
    · rw [if_pos h]
      show (if p.1 = k then p.2 ++ [v] else getH k r) = if key = k then (if p.1 = k then p.2 else getH k r) ++ [v] else (if p.1 = k then p.2 else getH k r)
      rw [h]
      by_cases e : key = k
      · rw [if_pos e, if_pos e, if_pos e]
      · rw [if_neg e, if_neg e, if_neg e]
    · rw [if_neg h]
      show (if p.1 = k then p.2 else getH k (addH key v r)) = if key = k then (if p.1 = k then p.2 else getH k r) ++ [v] else (if p.1 = k then p.2 else getH k r)
      rw [ih]
      by_cases e : p.1 = k
      · rw [if_pos e, if_pos e, if_neg (fun q => h (e.trans q.symm))]
      · rw [if_neg e, if_neg e]
theorem get_all (k : List UInt8) : ∀ (L : Hv) (hs : Hdl), getH k (addAll hs L) = getH k hs ++ vof k L
  | [], hs => by simp [addAll, vof]
  | p :: L, hs => by
    show getH k (addAll (addH p.1 p.2 hs) L) = _
    rw [get_all k L, get_add, vof_cons]
    by_cases h : p.1 = k
    · rw [if_pos h, if_pos h, List.append_assoc]
      rfl
    · rw [if_neg h, if_neg h]

/-- Names that are all different, each with a value. -/
def NiceH (hs : Hdl) : Prop := ∀ p ∈ hs, getH p.1 hs = p.2 ∧ ¬ p.2 = []
theorem hasH_mem {k : List UInt8} {hs : Hdl} : hasH k hs = true ↔ ∃ p ∈ hs, p.1 = k := by
  unfold hasH
  rw [List.any_eq_true]
  constructor
  · rintro ⟨p, h1, h2⟩
    exact ⟨p, h1, of_decide_eq_true h2⟩
  · rintro ⟨p, h1, h2⟩
    exact ⟨p, h1, decide_eq_true h2⟩
theorem addH_mem2 {key v : List UInt8} : ∀ {hs : Hdl} {p : List UInt8 × List (List UInt8)}, p ∈ addH key v hs → p ∈ hs ∨ (p.1 = key ∧ ¬ p.2 = [])
  | [], p, h => by
    simp [addH] at h
    subst h
    exact .inr ⟨rfl, by simp⟩
  | q :: r, p, h => by
    unfold addH at h
    by_cases e : q.1 = key
    · rw [if_pos e] at h
      rcases List.mem_cons.1 h with rfl | h
      · exact .inr ⟨e, by simp⟩
      · exact .inl (by simp [h])
    · rw [if_neg e] at h
      rcases List.mem_cons.1 h with rfl | h
      · exact .inl (by simp)
      · rcases addH_mem2 h with h | h
        · exact .inl (by simp [h])
        · exact .inr h
def keysH (hs : Hdl) : List (List UInt8) := hs.map (·.1)
theorem keys_add {key v : List UInt8} : ∀ {hs : Hdl}, (keysH hs).Nodup → (keysH (addH key v hs)).Nodup ∧ ∀ k, k ∈ keysH (addH key v hs) → k ∈ keysH hs ∨ k = key
  | [], _ => ⟨by simp [addH, keysH], fun k hk => by simp [addH, keysH] at hk; exact .inr hk⟩
  | q :: r, h => by
    unfold addH
    by_cases e : q.1 = key
    · rw [if_pos e]
      exact ⟨h, fun k hk => .inl hk⟩
    · rw [if_neg e]
      have h' : q.1 ∉ keysH r ∧ (keysH r).Nodup := List.nodup_cons.1 h
      obtain ⟨h1, h2⟩ := keys_add (key := key) (v := v) h'.2
      refine ⟨List.nodup_cons.2 ⟨fun hm => ?_, h1⟩, fun k hk => ?_⟩
      · rcases h2 _ hm with h3 | h3
        · exact h'.1 h3
        · exact e h3
      · rcases List.mem_cons.1 hk with rfl | hk
        · exact .inl (List.mem_cons_self ..)
        · rcases h2 _ hk with h3 | h3
          · exact .inl (List.mem_cons_of_mem _ h3)
          · exact .inr h3
theorem get_of_mem {hs : Hdl} (h : (keysH hs).Nodup) : ∀ p ∈ hs, getH p.1 hs = p.2 := by
  induction hs with
  | nil => intro p hp; cases hp
  | cons q r ih =>
    have h' : q.1 ∉ keysH r ∧ (keysH r).Nodup := List.nodup_cons.1 h
    intro p hp
    unfold getH
    rcases List.mem_cons.1 hp with rfl | hp
    · exact if_pos rfl
    · rw [if_neg (fun e => h'.1 (by rw [e]; exact List.mem_map.2 ⟨p, hp, rfl⟩))]
      exact ih h'.2 p hp
theorem keys_all : ∀ (L : Hv) {hs : Hdl}, (keysH hs).Nodup → (∀ p ∈ hs, ¬ p.2 = []) → (keysH (addAll hs L)).Nodup ∧ ∀ p ∈ addAll hs L, ¬ p.2 = []
  | [], _, h, h2 => ⟨h, h2⟩
  | q :: L, hs, h, h2 => keys_all L (keys_add h).1 fun p hp => (addH_mem2 hp).elim (h2 p) fun q => q.2
theorem has_iff {hs : Hdl} (h : (keysH hs).Nodup) (h2 : ∀ p ∈ hs, ¬ p.2 = []) (k : List UInt8) : (∃ p ∈ hs, p.1 = k) ↔ ¬ getH k hs = [] := by
  constructor
  · rintro ⟨p, hp, rfl⟩
    rw [get_of_mem h p hp]
    exact h2 p hp
  · intro hk
    cases hh : hasH k hs with
    | true => exact hasH_mem.1 hh
    | false => exact absurd (mget_miss hh).2 hk

/-- Are the headers what they must be? By values. -/
def goodL (L : Hv) : Prop := (vof hostK L).length = 1 ∧ ¬ [] ∈ vof hostK L ∧ (∀ v ∈ vof clenK L, v = [48]) ∧ (vof clenK L).length ≤ 1 ∧ vof tencK L = []
instance (L : Hv) : Decidable (goodL L) := by unfold goodL; infer_instance
theorem right_good (L : Hv) : rightH (addAll [] L) = decide (goodL L) := by
  obtain ⟨h1, h2⟩ := keys_all L (hs := []) List.nodup_nil (fun p hp => by cases hp)
  have hg : ∀ k, getH k (addAll [] L) = vof k L := fun k => by rw [get_all]; rfl
  have hh := fun k => has_iff h1 h2 k
  have hm := get_of_mem h1
  simp only [hg] at hh hm
  unfold rightH
  rw [hg]
  generalize addAll [] L = hs at *
  rw [Bool.eq_iff_iff, Bool.and_eq_true, decide_eq_true_eq, decide_eq_true_eq, List.all_eq_true]
  have d1 : ¬ clenK = hostK := by decide
  have d2 : ¬ tencK = hostK := by decide
  have d3 : ¬ tencK = clenK := by decide
  constructor
  · rintro ⟨hall, hone⟩
    refine ⟨hone, ?_, ?_, ?_, ?_⟩
    · obtain ⟨p, hp, e⟩ := (hh hostK).2 (fun q => by rw [q] at hone; cases hone)
      have := hall p hp
      rw [okH_host e, decide_eq_true_eq] at this
      rw [← hm p hp, e] at this
      intro hin
      obtain ⟨v, hv⟩ : ∃ v, vof hostK L = [v] := List.length_eq_one_iff.1 hone
      rw [hv] at this hin
      simp at this hin
      exact this hin
    · intro v hv
      obtain ⟨p, hp, e⟩ := (hh clenK).2 (fun q => by rw [q] at hv; cases hv)
      have := hall p hp
      rw [okH_clen (by rw [e]; exact d1) e, Bool.and_eq_true, List.all_eq_true] at this
      rw [← hm p hp, e] at this
      exact of_decide_eq_true (this.1 v hv)
    · by_cases hc : vof clenK L = []
      · rw [hc]
        exact Nat.zero_le _
      · obtain ⟨p, hp, e⟩ := (hh clenK).2 hc
        have := hall p hp
        rw [okH_clen (by rw [e]; exact d1) e, Bool.and_eq_true, decide_eq_true_eq] at this
        rw [← hm p hp, e] at this
        omega
    · by_cases hc : vof tencK L = []
      · exact hc
      · obtain ⟨p, hp, e⟩ := (hh tencK).2 hc
        have := hall p hp
        rw [okH_oth (by rw [e]; exact d2) (by rw [e]; exact d3), decide_eq_true_eq] at this
        exact absurd e this
  · rintro ⟨g1, g2, g3, g4, g5⟩
    refine ⟨fun p hp => ?_, g1⟩
    have hmp := hm p hp
    have hne := h2 p hp
    by_cases e1 : p.1 = hostK
    · rw [okH_host e1, decide_eq_true_eq, ← hmp, e1]
      refine ⟨g1, fun q => g2 ?_⟩
      obtain ⟨v, hv⟩ : ∃ v, vof hostK L = [v] := List.length_eq_one_iff.1 g1
      rw [hv] at q ⊢
      simp at q ⊢
      exact q
    · by_cases e2 : p.1 = clenK
      · rw [okH_clen e1 e2, Bool.and_eq_true, decide_eq_true_eq, ← hmp, e2, List.all_eq_true]
        rw [← hmp, e2] at hne
        refine ⟨fun v hv => decide_eq_true (g3 v hv), ?_⟩
        have : 0 < (vof clenK L).length := List.length_pos_iff.2 hne
        omega
      · rw [okH_oth e1 e2, decide_eq_true_eq]
        intro e3
        rw [← hmp, e3, g5] at hne
        exact hne rfl

/-! ### The whole -/
def ansR (mt tg : List UInt8) (L : Hv) : Rq := (mt, tg.take (fndN 63 tg), accV (vof aceK L), (tagsA (vof inmK L)).2, (tagsA (vof inmK L)).1)
def parR (b : List UInt8) : Option Rq :=
  if (linR [] [] b).2 = true ∧ b.length ≤ 8192 then
    if (firP ((linR [] [] b).1.getD 0 [])).2.2 = true then
      match hdvs ((linR [] [] b).1.drop 1) with
      | some L => if goodL L then some (ansR (firP ((linR [] [] b).1.getD 0 [])).1 (firP ((linR [] [] b).1.getD 0 [])).2.1 L) else none
      | none => none
    else none
  else none
theorem hdr_nil : (hdrP []).2.2 = false := by decide +kernel
theorem hdvs_bad : ∀ {l : List (List UInt8)}, l.all (fun p => !p.isEmpty) = false → hdvs l = none
  | [], h => by cases h
  | s :: r, h => by
    unfold hdvs
    rw [List.all_cons, Bool.and_eq_false_iff] at h
    by_cases hs : s = []
    · subst hs
      rw [if_neg (by rw [hdr_nil]; exact Bool.false_ne_true)]
    · have h' : r.all (fun p => !p.isEmpty) = false := by
        rcases h with h | h
        · cases s with
          | nil => exact absurd rfl hs
          | cons => cases h
        · exact h
      rw [hdvs_bad h']
      split <;> rfl
theorem path_cut (tg : List UInt8) : (Lib.cut tg [63]).1 = tg.take (fndN 63 tg) := by
  rw [cut_one]
  by_cases h : fndN 63 tg < tg.length
  · rw [if_pos h]
  · rw [if_neg h]
    show tg = tg.take (fndN 63 tg)
    exact (List.take_of_length_le (by omega)).symm
theorem par_both (b : List UInt8) : parP b = parR b := by
  unfold parP parR
  by_cases hb : b.length ≤ 8192
  · have h := lines_both b hb
    cases hl : linP b with
    | none =>
      rw [hl] at h
      rw [if_neg (fun q => by rw [h] at q; cases q.1)]
    | some ls =>
      rw [hl] at h
      obtain ⟨h1, h2, h3⟩ := h
      dsimp only
      rw [hds_eq]
      cases ha : (ls.drop 1).all (fun p => !p.isEmpty) with
      | true =>
        rw [h2 ha]
        have hok : (ls, true).2 = true ∧ b.length ≤ 8192 := ⟨rfl, hb⟩
        by_cases hf : (firP (ls.getD 0 [])).2.2 = true
        · rw [if_pos hf, if_pos hok]
          dsimp only
          rw [if_pos hf]
          cases hv : hdvs (ls.drop 1) with
          | none => rfl
          | some L =>
            show (if rightH (addAll [] L) = true then some ((firP (ls.getD 0 [])).1, (Lib.cut (firP (ls.getD 0 [])).2.1 [63]).1, accV (getH aceK (addAll [] L)), (tagsA (getH inmK (addAll [] L))).2, (tagsA (getH inmK (addAll [] L))).1) else none) = _
            rw [right_good, path_cut, get_all, get_all]
            by_cases hg : goodL L
            · rw [if_pos (decide_eq_true hg)]
              dsimp only
              rw [if_pos hg]
              rfl
            · rw [if_neg (by rw [decide_eq_false hg]; exact Bool.false_ne_true)]
              dsimp only
              rw [if_neg hg]
        · rw [if_neg hf, if_pos hok]
          dsimp only
          rw [if_neg hf]
      | false =>
        have hno : ¬ ((linR [] [] b).2 = true ∧ b.length ≤ 8192) := fun q => by rw [h3 ha] at q; cases q.1
        rw [hdvs_bad ha, if_neg hno]
        by_cases hf : (firP (ls.getD 0 [])).2.2 = true
        · rw [if_pos hf]
          rfl
        · rw [if_neg hf]
  · have : linP b = none := if_neg fun q => hb q.1
    rw [this, if_neg (fun q => hb q.2)]

end Go.Proofs.YtghdgjabpdfaoaaDoor.Flow

/- REQ: the document's: lines, the first line. -/
namespace Go.Proofs.YtghdgjabpdfaoaaDoor.Flow
open Go

end Go.Proofs.YtghdgjabpdfaoaaDoor.Flow

/- REQ: the document's: Parse. -/
namespace Go.Proofs.YtghdgjabpdfaoaaDoor.Flow
open Go

/-- A line's header, by places. -/
theorem hdr_eq (s : List UInt8) : hdrP s = if fndN 58 s < s.length ∧ tokB (s.take (fndN 58 s)) = true ∧ (s.drop (fndN 58 s + 1)).all vaC = true then (smallL (s.take (fndN 58 s)), Lib.trimS (s.drop (fndN 58 s + 1)) bl, true) else ([], [], false) := by
  unfold hdrP
  rw [cut_one]
  by_cases h : fndN 58 s < s.length
  · rw [if_pos h]
    dsimp only
    by_cases h2 : tokB (s.take (fndN 58 s)) = true ∧ (s.drop (fndN 58 s + 1)).all vaC = true
    · rw [if_pos ⟨rfl, h2⟩, if_pos ⟨h, h2⟩]
    · rw [if_neg (fun q => h2 q.2), if_neg (fun q => h2 q.2)]
  · rw [if_neg h]
    dsimp only
    rw [if_neg (fun q => Bool.noConfusion q.1), if_neg (fun q => h q.1)]

/-- No header so far that may not be. -/
def okSoFar (L : Hv) : Prop := ¬ [] ∈ vof hostK L ∧ (∀ v ∈ vof clenK L, v = [48]) ∧ vof tencK L = []
theorem good_iff (L : Hv) : goodL L ↔ okSoFar L ∧ (vof hostK L).length = 1 ∧ (vof clenK L).length ≤ 1 := by
  unfold goodL okSoFar
  constructor
  · rintro ⟨a, b, c, d, e⟩
    exact ⟨⟨b, c, e⟩, a, d⟩
  · rintro ⟨⟨b, c, e⟩, a, d⟩
    exact ⟨a, b, c, d, e⟩
def badH (p : List UInt8 × List UInt8) : Prop := p.1 = tencK ∨ (p.1 = clenK ∧ ¬ p.2 = [48]) ∨ (p.1 = hostK ∧ p.2 = [])
theorem bad_good {L M : Hv} {p : List UInt8 × List UInt8} (h : badH p) : ¬ goodL (L ++ p :: M) := by
  rintro ⟨_, b, c, _, e⟩
  rw [vof_app, vof_cons] at b c e
  rcases h with h | h | h
  · rw [if_pos h] at e
    exact absurd e (by simp)
  · rw [if_pos h.1] at c
    exact h.2 (c p.2 (by simp))
  · rw [if_pos h.1] at b
    exact b (by simp [h.2])
theorem ok_add {L : Hv} {p : List UInt8 × List UInt8} (hL : okSoFar L) (h : ¬ badH p) : okSoFar (L ++ [p]) := by
  obtain ⟨b, c, e⟩ := hL
  unfold okSoFar
  simp only [vof_app, vof_cons]
  refine ⟨?_, ?_, ?_⟩
  · by_cases q : p.1 = hostK
    · rw [if_pos q]
      intro hm
      rcases List.mem_append.1 hm with hm | hm
      · exact b hm
      · simp [vof] at hm
        exact h (.inr (.inr ⟨q, hm⟩))
    · rw [if_neg q]
      simpa [vof] using b
  · by_cases q : p.1 = clenK
    · rw [if_pos q]
      intro v hm
      rcases List.mem_append.1 hm with hm | hm
      · exact c v hm
      · simp [vof] at hm
        subst hm
        by_cases h2 : p.2 = [48]
        · exact h2
        · exact absurd (.inr (.inl ⟨q, h2⟩)) h
    · rw [if_neg q]
      simpa [vof] using c
  · by_cases q : p.1 = tencK
    · exact absurd (.inl q) h
    · rw [if_neg q]
      simpa [vof] using e
theorem vof_one (k : List UInt8) (L : Hv) (p : List UInt8 × List UInt8) : vof k (L ++ [p]) = if p.1 = k then vof k L ++ [p.2] else vof k L := by
  rw [vof_app, vof_cons]
  by_cases h : p.1 = k
  · rw [if_pos h, if_pos h]
    rfl
  · rw [if_neg h, if_neg h]
    simp [vof]
theorem hdvs_at {l : List (List UInt8)} {i : Nat} (h : i < l.length) : hdvs (l.drop i) = if (hdrP (l.getD i [])).2.2 = true then (hdvs (l.drop (i + 1))).map (((hdrP (l.getD i [])).1, (hdrP (l.getD i [])).2.1) :: ·) else none := by
  rw [List.drop_eq_getElem_cons h]
  have : l[i] = l.getD i [] := by simp [List.getD_eq_getElem?_getD, h]
  rw [this]
  rfl
/-- What is left to be said once so many headers have been read. -/
def restR (mt tg : List UInt8) (L : Hv) (o : Option Hv) : Option Rq := match o with
  | some M => if goodL (L ++ M) then some (ansR mt tg (L ++ M)) else none
  | none => none
theorem rest_bad {mt tg : List UInt8} {L : Hv} {o : Option Hv} {p : List UInt8 × List UInt8} (h : badH p) : restR mt tg L (o.map (p :: ·)) = none := by
  cases o with
  | none => rfl
  | some M => exact if_neg (bad_good h)
theorem rest_next {mt tg : List UInt8} {L : Hv} {o : Option Hv} {p : List UInt8 × List UInt8} : restR mt tg L (o.map (p :: ·)) = restR mt tg (L ++ [p]) o := by
  cases o with
  | none => rfl
  | some M =>
    show (if goodL (L ++ p :: M) then some (ansR mt tg (L ++ p :: M)) else none) = if goodL (L ++ [p] ++ M) then some (ansR mt tg (L ++ [p] ++ M)) else none
    rw [List.append_assoc]
    rfl
theorem vof_len (k : List UInt8) (L : Hv) : (vof k L).length ≤ L.length := by
  unfold vof
  rw [List.length_map]
  exact List.length_filter_le _ _
theorem vof_mem {k v : List UInt8} {L : Hv} (h : v ∈ vof k L) : ∃ p ∈ L, p.2 = v := by
  unfold vof at h
  obtain ⟨p, h1, h2⟩ := List.mem_map.1 h
  exact ⟨p, (List.mem_filter.1 h1).1, h2⟩
theorem getD_len {n : Nat} {l : List (List UInt8)} (h : ∀ v ∈ l, v.length ≤ n) (i : Nat) : (l.getD i []).length ≤ n := by
  by_cases hi : i < l.length
  · rw [List.getD_eq_getElem?_getD, List.getElem?_eq_getElem hi, Option.getD_some]
    exact h _ (List.getElem_mem hi)
  · rw [List.getD_eq_getElem?_getD, List.getElem?_eq_none (by omega)]
    exact Nat.zero_le _
/-- Lines are no longer than the bytes. -/
theorem linR_len : ∀ (n : Nat) (b : List UInt8) (l : List (List UInt8)) (s : List UInt8) (m : Nat), b.length ≤ n → s.length + b.length ≤ m → (∀ v ∈ l, v.length ≤ m) → (linR l s b).1.length ≤ l.length + b.length ∧ ∀ v ∈ (linR l s b).1, v.length ≤ m
  | _, [], l, s, m, _, _, _ => by
    rw [linR_nil]
    exact ⟨Nat.zero_le _, fun v h => by cases h⟩
  | 0, c :: r, l, s, m, h, _, _ => by simp at h
  | n + 1, c :: r, l, s, m, h, hm, hl => by
    simp at h hm
    by_cases hc : c = 13 ∧ r.getD 0 0 = 10
    · rw [linR_hit hc]
      by_cases h1 : s = [] ∧ ¬ l = []
      · rw [if_pos h1]
        exact ⟨Nat.le_add_right _ _, hl⟩
      · rw [if_neg h1]
        have ih := linR_len n (r.drop 1) (l ++ [s]) [] m (by rw [List.length_drop]; omega) (by rw [List.length_drop]; simp; omega) (fun v hv => by
          rcases List.mem_append.1 hv with hv | hv
          · exact hl v hv
          · simp at hv
            subst hv
            omega)
        rw [List.length_drop, List.length_append] at ih
        refine ⟨Nat.le_trans ih.1 ?_, ih.2⟩
        simp
        omega
    · by_cases h2 : c = 13 ∨ c = 10
      · rw [linR_bad hc h2]
        exact ⟨Nat.zero_le _, fun v h => by cases h⟩
      · rw [linR_go h2]
        have ih := linR_len n r l (s ++ [c]) m h (by simp; omega) hl
        refine ⟨Nat.le_trans ih.1 ?_, ih.2⟩
        simp
theorem linR_some : ∀ (n : Nat) (b : List UInt8) (l : List (List UInt8)) (s : List UInt8), b.length ≤ n → (linR l s b).2 = true → ¬ (linR l s b).1 = []
  | _, [], l, s, _, h => by
    rw [linR_nil] at h
    cases h
  | 0, c :: r, l, s, h, _ => by simp at h
  | n + 1, c :: r, l, s, h, hh => by
    simp at h
    by_cases hc : c = 13 ∧ r.getD 0 0 = 10
    · rw [linR_hit hc] at hh ⊢
      by_cases h1 : s = [] ∧ ¬ l = []
      · rw [if_pos h1]
        exact h1.2
      · rw [if_neg h1] at hh ⊢
        exact linR_some n _ _ _ (by rw [List.length_drop]; omega) hh
    · by_cases h2 : c = 13 ∨ c = 10
      · rw [linR_bad hc h2] at hh
        cases hh
      · rw [linR_go h2] at hh ⊢
        exact linR_some n r _ _ h hh

end Go.Proofs.YtghdgjabpdfaoaaDoor.Flow

/- REQ: the law of words. -/
namespace Go.Proofs.YtghdgjabpdfaoaaDoor.Flow
open Go

theorem split_nil : splitL [] [44] = [[]] := by kernel_rfl
theorem split_a1 : splitL [103, 122, 105, 112, 59, 113, 61, 48, 44, 32, 42] [44] = [[103, 122, 105, 112, 59, 113, 61, 48], [32, 42]] := by kernel_rfl
theorem split_a2 : splitL [98, 114, 44, 32, 71, 90, 73, 80, 59, 113, 61, 48, 46, 53] [44] = [[98, 114], [32, 71, 90, 73, 80, 59, 113, 61, 48, 46, 53]] := by kernel_rfl

theorem short2 {a b : List UInt8} (ha : a.length ≤ 100000) (hb : b.length ≤ 100000) (j : Nat) : (([a, b] : List (List UInt8)).getD j []).length ≤ 100000 := by
  match j with
  | 0 => exact ha
  | 1 => exact hb
  | _ + 2 => exact Nat.zero_le _

theorem accepts1 (a : List UInt8) (f : Nat → List D) (hf : f 0 = [.s a]) (ha : a.length ≤ 100000) (hp : ∀ j, ((splitL a [44]).getD j []).length ≤ 100000) : Ctr Tryd.prog 36 [.sl 1 1 f] (.b (accV [a])) :=
  accepts_ctr [a] 1 f rfl (fun i hi => by
    obtain rfl : i = 0 := by simpa using hi
    exact hf) (by simp) (fun i => by
    match i with
    | 0 => exact ha
    | _ + 1 => exact Nat.zero_le _) (fun i j => by
    match i with
    | 0 => exact hp j
    | _ + 1 =>
      show ((splitL [] [44]).getD j []).length ≤ 100000
      rw [split_nil]
      match j with
      | 0 => exact Nat.zero_le _
      | _ + 1 => exact Nat.zero_le _)

theorem acc_a1 : accV [[103, 122, 105, 112, 59, 113, 61, 48, 44, 32, 42]] = false := by kernel_rfl
theorem acc_a2 : accV [[98, 114, 44, 32, 71, 90, 73, 80, 59, 113, 61, 48, 46, 53]] = true := by kernel_rfl

theorem wlive_ctr : Ctr Tryd.prog 14 [] (.b true) := by
  have c1 := accepts1 [103, 122, 105, 112, 59, 113, 61, 48, 44, 32, 42] (chunk 1 [.s [103, 122, 105, 112, 59, 113, 61, 48, 44, 32, 42]]) rfl (by decide) (by rw [split_a1]; exact short2 (by decide) (by decide))
  have c2 := accepts1 [98, 114, 44, 32, 71, 90, 73, 80, 59, 113, 61, 48, 46, 53] (chunk 1 [.s [98, 114, 44, 32, 71, 90, 73, 80, 59, 113, 61, 48, 46, 53]]) rfl (by decide) (by rw [split_a2]; exact short2 (by decide) (by decide))
  rw [acc_a1] at c1
  rw [acc_a2] at c2
  refine r_fun Tryd.func14 rfl Tryd.ntmps14 Tryd.results14 rfl rfl fun X hL hX => ?_
  repeat' (first
    | refine r_call (f := 36) rfl rfl Tryd.call36 rfl c1 ?_ | refine r_gcall (f := 36) rfl rfl rfl rfl Tryd.call36 rfl c2 ?_
    | with_reducible (first | refine t_seq ?_ | refine t_region ?_ | refine c_nil ?_ | refine n_then ?_ | refine t_ret ?_ | refine t_skip ?_ | refine t_exit ?_ | refine t_block ?_ | refine n_block ?_ | refine e_then ?_ | refine x_then ?_ | refine x_block ?_ | refine t_draw ?_)
    | refine r_val rfl rfl True.intro ?_ | refine r_gskip rfl rfl rfl ?_ | refine r_gskip2 rfl rfl rfl ?_ | refine r_gval rfl rfl rfl rfl True.intro ?_
    | refine t_true rfl ?_ | refine t_false rfl ?_
    | ((first | refine t_cond_d rfl ?_ ?_ | refine t_cond_i rfl ?_ ?_ | refine t_cond_j rfl ?_ ?_ | refine t_cond_s rfl ?_ ?_ | refine t_cond_n rfl ?_ ?_ | refine t_cond rfl ?_ ?_ | refine c_split_d rfl rfl ?_ ?_ | refine c_split_i rfl rfl ?_ ?_ | refine c_split_j rfl rfl ?_ ?_ | refine c_split_s rfl rfl ?_ ?_ | refine c_split_n rfl rfl ?_ ?_) <;> intro <;> try (first | contradiction | (exfalso; omega)))
    | ((first | refine r_val rfl rfl ?_ ?_ | refine r_gval rfl rfl rfl rfl ?_ ?_ | refine r_obj rfl rfl ?_ ?_ | refine r_sto rfl ?_ ?_ | refine r_gobj rfl rfl rfl rfl ?_ ?_); focus (first | omega | exact Nat.le_of_ble_eq_true rfl | (simp_all; done) | (simp_all; omega) | ((repeat' refine And.intro ?_ ?_) <;> first | omega | rfl | exact Nat.le_refl _ | exact Nat.le_of_ble_eq_true rfl | exact bytesF_one _ | (simp_all; done) | (simp_all; omega))))
    | refine e_hit rfl ?_ | refine e_miss rfl ?_
    | with_reducible refine ⟨by kernel_rfl, ?_⟩ | refine x_end rfl rfl | refine n_end rfl rfl | ((with_reducible refine c_grd ?_); (fail_if_success (refine c_lit true rfl rfl rfl ?_)); (fail_if_success (refine c_lit false rfl rfl rfl ?_)); refine c_split rfl rfl (fun _ => ?_) (fun _ => ?_)))

end Go.Proofs.YtghdgjabpdfaoaaDoor.Flow

/- REQ: the law of requests. -/
namespace Go.Proofs.YtghdgjabpdfaoaaDoor.Flow
open Go

theorem hdvs_len : ∀ {l : List (List UInt8)} {L : Hv}, hdvs l = some L → L.length = l.length ∧ ∀ m, (∀ s ∈ l, s.length ≤ m) → ∀ p ∈ L, p.2.length ≤ m
  | [], L, h => by
    cases h
    exact ⟨rfl, fun _ _ p hp => by cases hp⟩
  | s :: r, L, h => by
    unfold hdvs at h
    split at h
    · cases hr : hdvs r with
      | none => rw [hr] at h; cases h
      | some M =>
        rw [hr] at h
        cases h
        obtain ⟨h1, h2⟩ := hdvs_len hr
        refine ⟨by simp [h1], fun m hm p hp => ?_⟩
        rcases List.mem_cons.1 hp with rfl | hp
        · exact Nat.le_trans (hdr_len s) (hm s (by simp))
        · exact h2 m (fun s hs => hm s (by simp [hs])) p hp
    · cases h
theorem flat_len {m : Nat} : ∀ {vs : List (List UInt8)}, (∀ v ∈ vs, v.length ≤ m) → (vs.flatMap tagsV).length ≤ vs.length * m
  | [], _ => Nat.zero_le _
  | v :: vs, h => by
    have h1 := flat_len (vs := vs) fun v hv => h v (by simp [hv])
    have h2 := tagsV_len _ v (Nat.le_refl _)
    have h3 := h v (by simp)
    rw [List.flatMap_cons, List.length_append, List.length_cons, Nat.succ_mul]
    omega
theorem parR_len {b : List UInt8} {x : Rq} (hb : b.length ≤ 2000) (h : parR b = some x) : x.2.2.2.2.length ≤ 4000000 := by
  unfold parR at h
  have hlen := linR_len _ b [] [] b.length (Nat.le_refl _) (by simp) (fun v h => by cases h)
  generalize linR [] [] b = LR at *
  obtain ⟨l, ok⟩ := LR
  dsimp only at h hlen
  obtain ⟨hl1, hl2⟩ := hlen
  simp only [List.length_nil, Nat.zero_add] at hl1
  split at h
  · split at h
    · split at h
      · rename_i L hL
        split at h
        · cases h
          obtain ⟨g1, g2⟩ := hdvs_len hL
          rw [List.length_drop] at g1
          have g3 := g2 2000 fun s hs => Nat.le_trans (hl2 s (List.mem_of_mem_drop hs)) hb
          show (tagsA (vof inmK L)).1.length ≤ _
          unfold tagsA
          split
          · exact Nat.zero_le _
          · have g4 := flat_len (m := 2000) (vs := vof inmK L) fun v hv => by
              obtain ⟨p, hp, rfl⟩ := vof_mem hv
              exact g3 p hp
            have g5 := vof_len inmK L
            have g6 : (vof inmK L).length * 2000 ≤ 2000 * 2000 := Nat.mul_le_mul (by omega) (Nat.le_refl _)
            dsimp only
            omega
        · cases h
      · cases h
    · cases h
  · cases h

end Go.Proofs.YtghdgjabpdfaoaaDoor.Flow

/- REQ: a header of another name (plain). -/
namespace Go.Proofs.YtghdgjabpdfaoaaDoor.Flow
open Go

theorem parP_alt (b : List UInt8) : parP b = match linP b with
    | none => none
    | some l => if (firP (l.getD 0 [])).2.2 = true then
        match hdvs (l.drop 1) with
        | none => none
        | some L => if goodL L then some (ansR (firP (l.getD 0 [])).1 (firP (l.getD 0 [])).2.1 L) else none
      else none := by
  unfold parP
  cases hl : linP b with
  | none => rfl
  | some l =>
    dsimp only
    rw [hds_eq]
    by_cases hf : (firP (l.getD 0 [])).2.2 = true
    · rw [if_pos hf, if_pos hf]
      cases hv : hdvs (l.drop 1) with
      | none => rfl
      | some L =>
        show (if rightH (addAll [] L) = true then some ((firP (l.getD 0 [])).1, (Lib.cut (firP (l.getD 0 [])).2.1 [63]).1, accV (getH aceK (addAll [] L)), (tagsA (getH inmK (addAll [] L))).2, (tagsA (getH inmK (addAll [] L))).1) else none) = _
        rw [right_good, path_cut, get_all, get_all]
        by_cases hg : goodL L
        · rw [if_pos (decide_eq_true hg)]
          dsimp only
          rw [if_pos hg]
          rfl
        · rw [if_neg (by rw [decide_eq_false hg]; exact Bool.false_ne_true)]
          dsimp only
          rw [if_neg hg]
    · rw [if_neg hf, if_neg hf]

/-- The line of a header. -/
def lineH (name value : List UInt8) : List UInt8 := name ++ [58, 32] ++ value
def moreH (b name value : List UInt8) : List UInt8 := b.take (b.length - 2) ++ (lineH name value ++ end4)
/-- A name that says nothing. -/
def othN (nm : List UInt8) : Prop := ¬ nm = hostK ∧ ¬ nm = clenK ∧ ¬ nm = tencK ∧ ¬ nm = aceK ∧ ¬ nm = inmK
def vaO (c : UInt8) : Bool := decide (32 ≤ c.toNat ∧ c.toNat ≠ 127)

theorem tok_clean : ∀ n : Fin 256, tokC (n.1 : Int) = true → ¬ (n.1 = 13 ∨ n.1 = 10) ∧ ¬ n.1 = 58 := by decide +kernel
theorem tok_bytes {s : List UInt8} (h : tokB s = true) : ∀ c ∈ s, ¬ (c = 13 ∨ c = 10) ∧ ¬ c = 58 := by
  intro c hc
  unfold tokB at h
  rw [Bool.and_eq_true, List.all_eq_true] at h
  have h1 := tok_clean ⟨c.toNat, c.toNat_lt⟩ (h.2 c hc)
  dsimp only at h1
  refine ⟨?_, ?_⟩
  · rintro (rfl | rfl)
    · exact h1.1 (.inl rfl)
    · exact h1.1 (.inr rfl)
  · rintro rfl
    exact h1.2 rfl
theorem split_clean : ∀ {x : List UInt8}, cleanB x = true → splitX x = [x]
  | [], _ => splitX_nil
  | c :: x, h => by
    unfold cleanB at h
    rw [List.all_cons, Bool.and_eq_true] at h
    have hc := of_decide_eq_true h.1
    rw [splitX_go (fun q => hc (.inl q.1)), split_clean h.2]
theorem line_clean {name value : List UInt8} (hn : tokB name = true) (hv : value.all vaO = true) : cleanB (lineH name value) = true := by
  unfold cleanB
  rw [List.all_eq_true]
  intro c hc
  refine decide_eq_true ?_
  unfold lineH at hc
  rcases List.mem_append.1 hc with hc | hc
  · rcases List.mem_append.1 hc with hc | hc
    · exact (tok_bytes hn c hc).1
    · simp at hc
      rcases hc with rfl | rfl <;> decide
  · rw [List.all_eq_true] at hv
    have := of_decide_eq_true (hv c hc)
    rintro (rfl | rfl)
    · exact absurd this.1 (by decide)
    · exact absurd this.1 (by decide)
theorem fndN_app {c : UInt8} : ∀ {s r : List UInt8}, (∀ x ∈ s, ¬ x = c) → fndN c (s ++ c :: r) = s.length
  | [], r, _ => by
    unfold fndN
    rw [List.nil_append, List.takeWhile_cons, if_neg (by simp)]
  | x :: s, r, h => by
    unfold fndN
    rw [List.cons_append, List.takeWhile_cons, if_pos (by simpa using h x (by simp))]
    exact congrArg (· + 1) (fndN_app fun x hx => h x (by simp [hx]))
theorem hdr_line {name value : List UInt8} (hn : tokB name = true) (hv : value.all vaO = true) : ∃ v, hdrP (lineH name value) = (smallL name, v, true) := by
  have hf : fndN 58 (lineH name value) = name.length := by
    unfold lineH
    rw [List.append_assoc]
    exact fndN_app fun x hx => (tok_bytes hn x hx).2
  rw [hdr_eq, hf]
  have e1 : (lineH name value).take name.length = name := by
    unfold lineH
    rw [List.append_assoc, List.take_left]
  have e2 : (lineH name value).drop (name.length + 1) = 32 :: value := by
    unfold lineH
    rw [show name ++ [58, 32] ++ value = (name ++ [58]) ++ (32 :: value) by simp, show name.length + 1 = (name ++ [58]).length by simp, List.drop_left]
  rw [e1, e2]
  have hl : name.length < (lineH name value).length := by
    unfold lineH
    simp
  have ha : (32 :: value).all vaC = true := by
    rw [List.all_cons, List.all_eq_true.2]
    · rfl
    · intro c hc
      rw [List.all_eq_true] at hv
      have := of_decide_eq_true (hv c hc)
      exact decide_eq_true ⟨.inl this.1, this.2⟩
  rw [if_pos ⟨hl, hn, ha⟩]
  exact ⟨_, rfl⟩
theorem hdvs_app : ∀ {l : List (List UInt8)} {L : Hv} {s : List UInt8}, hdvs l = some L → (hdrP s).2.2 = true → hdvs (l ++ [s]) = some (L ++ [((hdrP s).1, (hdrP s).2.1)])
  | [], L, s, h, hs => by
    cases h
    show (if (hdrP s).2.2 = true then (some []).map _ else none) = _
    rw [if_pos hs]
    rfl
  | x :: r, L, s, h, hs => by
    rw [List.cons_append]
    unfold hdvs at h ⊢
    split at h
    · rename_i hx
      cases hr : hdvs r with
      | none => rw [hr] at h; cases h
      | some M =>
        rw [hr] at h
        cases h
        rw [if_pos hx, hdvs_app hr hs]
        rfl
    · cases h
theorem vof_other {k nm v : List UInt8} {L : Hv} (h : ¬ nm = k) : vof k (L ++ [(nm, v)]) = vof k L := by
  rw [vof_one, if_neg h]

theorem others_plain (b name value : List UInt8) (hb : b.length ≤ 1500) (hl : name.length + value.length ≤ 200) (hn : tokB name = true) (ho : othN (smallL name)) (hv : value.all vaO = true) {x : Rq} (hx : parP b = some x) : parP (moreH b name value) = some x := by
  rw [parP_alt] at hx ⊢
  cases hlp : linP b with
  | none => rw [hlp] at hx; cases hx
  | some ls =>
    rw [hlp] at hx
    dsimp only at hx
    -- the bytes
    have hs : Lib.hasSuffix b end4 = true := by
      unfold linP at hlp
      split at hlp
      · rename_i h
        exact h.2
      · cases hlp
    obtain ⟨body, rfl⟩ : ∃ x, b = x ++ end4 := by
      unfold Lib.hasSuffix at hs
      rw [List.isSuffixOf_iff_suffix] at hs
      obtain ⟨x, h⟩ := hs
      exact ⟨x, h.symm⟩
    have ht : (body ++ end4).take ((body ++ end4).length - 4) = body := by
      rw [List.length_append, show body.length + end4.length - 4 = body.length from Nat.add_sub_cancel .., List.take_left]
    have hall : ∀ l : List (List UInt8), l.all (fun s => !Lib.containsAny s crlf) = l.all cleanB := fun l => by
      congr 1
      funext s
      rw [clean_any, Bool.not_not]
    have hl0 : linP (body ++ end4) = if (splitX body).all cleanB = true then some (splitX body) else none := by
      unfold linP
      rw [if_pos ⟨by omega, hs⟩, ht, splitL_X _ body (Nat.le_refl _), hall]
    rw [hl0] at hlp
    have hc : (splitX body).all cleanB = true := by
      by_cases h : (splitX body).all cleanB = true
      · exact h
      · rw [if_neg h] at hlp
        cases hlp
    rw [if_pos hc] at hlp
    obtain rfl : splitX body = ls := Option.some.inj hlp
    have hlc := line_clean hn hv
    have hm : moreH (body ++ end4) name value = (body ++ 13 :: 10 :: lineH name value) ++ end4 := by
      have e : (body ++ end4).take ((body ++ end4).length - 2) = body ++ [13, 10] := by
        rw [List.length_append, show body.length + end4.length - 2 = (body ++ [13, 10]).length by simp; rfl, show body ++ end4 = (body ++ [13, 10]) ++ [13, 10] by simp [end4], List.take_left]
      unfold moreH
      rw [e]
      simp
    have hlen : (body ++ 13 :: 10 :: lineH name value).length + 4 ≤ 8192 := by
      have h4 : end4.length = 4 := rfl
      rw [List.length_append] at hb
      unfold lineH
      simp
      omega
    have hl1 : linP (moreH (body ++ end4) name value) = some (splitX body ++ [lineH name value]) := by
      rw [hm]
      have h4 : end4.length = 4 := rfl
      have ht1 : ((body ++ 13 :: 10 :: lineH name value) ++ end4).take (((body ++ 13 :: 10 :: lineH name value) ++ end4).length - 4) = body ++ 13 :: 10 :: lineH name value := by
        rw [List.length_append (bs := end4), h4, Nat.add_sub_cancel, List.take_left]
      have hsp : splitX (body ++ 13 :: 10 :: lineH name value) = splitX body ++ [lineH name value] := by
        rw [split_app _ body (lineH name value) (Nat.le_refl _), split_clean hlc]
      unfold linP
      rw [if_pos ⟨by rw [List.length_append, h4]; exact hlen, sfx4⟩, ht1, splitL_X _ _ (Nat.le_refl _), hall, hsp, if_pos]
      rw [List.all_append, hc]
      simp [hlc]
    rw [hl1]
    dsimp only
    obtain ⟨p, ps, e⟩ := splitX_cons body
    rw [e] at hx ⊢
    have e0 : ((p :: ps) ++ [lineH name value]).getD 0 [] = (p :: ps).getD 0 [] := rfl
    have e1 : ((p :: ps) ++ [lineH name value]).drop 1 = (p :: ps).drop 1 ++ [lineH name value] := rfl
    rw [e0, e1]
    obtain ⟨v, hh⟩ := hdr_line hn hv
    by_cases hf : (firP ((p :: ps).getD 0 [])).2.2 = true
    · rw [if_pos hf] at hx ⊢
      cases hd : hdvs ((p :: ps).drop 1) with
      | none => rw [hd] at hx; cases hx
      | some L =>
        rw [hd] at hx
        rw [hdvs_app hd (by rw [hh]), hh]
        dsimp only at hx ⊢
        obtain ⟨o1, o2, o3, o4, o5⟩ := ho
        have hg : goodL (L ++ [(smallL name, v)]) ↔ goodL L := by
          unfold goodL
          rw [vof_other o1, vof_other o2, vof_other o3]
        have ha : ansR (firP ((p :: ps).getD 0 [])).1 (firP ((p :: ps).getD 0 [])).2.1 (L ++ [(smallL name, v)]) = ansR (firP ((p :: ps).getD 0 [])).1 (firP ((p :: ps).getD 0 [])).2.1 L := by
          unfold ansR
          rw [vof_other o4, vof_other o5]
        by_cases hgl : goodL L
        · rw [if_pos hgl] at hx
          rw [if_pos (hg.2 hgl), ha]
          exact hx
        · rw [if_neg hgl] at hx
          cases hx
    · rw [if_neg hf] at hx
      cases hx

set_option maxRecDepth 100000 in
set_option maxHeartbeats 4000000 in
theorem reqOthers_ctr (b name value : List UInt8) (hb : b.length ≤ 1048576) (hn : name.length ≤ 1048576) (hv : value.length ≤ 1048576) : Ctr Tryd.prog 6 [.sl 1 b.length (bytesF b), .s name, .s value] (.b true) := by
  have c0 := wlive_ctr
  refine r_fun Tryd.func6 rfl Tryd.ntmps6 Tryd.results6 rfl rfl fun X hL hX => ?_
  by_cases h : b.length ≤ 1500 ∧ name.length + value.length ≤ 200 ∧ 4 ≤ b.length
  · obtain ⟨h1, h2, h3⟩ := h
    have d1 := rsmall_ctr name (by omega)
    have d2 := rtoken_ctr name (by omega)
    have hop := others_plain b name value h1 h2
    generalize smallL name = nm at *
    generalize hT : tokB name = tk at *
    by_cases hg : tk = true ∧ othN nm
    · obtain ⟨rfl, ho⟩ := hg
      have m1 : ¬ nm = (ByteArray.mk #[116, 114, 97, 110, 115, 102, 101, 114, 45, 101, 110, 99, 111, 100, 105, 110, 103]).data.toList := ho.2.2.1
      have m2 : ¬ nm = (ByteArray.mk #[99, 111, 110, 116, 101, 110, 116, 45, 108, 101, 110, 103, 116, 104]).data.toList := ho.2.1
      have m3 : ¬ nm = (ByteArray.mk #[104, 111, 115, 116]).data.toList := ho.1
      have m4 : ¬ nm = (ByteArray.mk #[97, 99, 99, 101, 112, 116, 45, 101, 110, 99, 111, 100, 105, 110, 103]).data.toList := ho.2.2.2.1
      have m5 : ¬ nm = (ByteArray.mk #[105, 102, 45, 110, 111, 110, 101, 45, 109, 97, 116, 99, 104]).data.toList := ho.2.2.2.2
      repeat' (first
        | refine r_call (f := 22) rfl rfl Tryd.call22 rfl d1 ?_ | refine r_call (f := 18) rfl rfl Tryd.call18 rfl d2 ?_ | refine r_call (f := 14) rfl rfl Tryd.call14 rfl c0 ?_
        | with_reducible (first | refine t_seq ?_ | refine t_region ?_ | refine c_nil ?_ | refine n_then ?_ | refine t_ret ?_ | refine t_skip ?_ | refine t_exit ?_ | refine t_block ?_ | refine n_block ?_ | refine e_then ?_ | refine x_then ?_ | refine x_block ?_ | refine t_draw ?_)
        | refine r_val rfl rfl True.intro ?_ | refine r_gskip rfl rfl rfl ?_ | refine r_gskip2 rfl rfl rfl ?_ | refine r_gval rfl rfl rfl rfl True.intro ?_
        | refine t_true rfl ?_ | refine t_false rfl ?_
        | ((first | refine t_cond_d rfl ?_ ?_ | refine t_cond_i rfl ?_ ?_ | refine t_cond_j rfl ?_ ?_ | refine t_cond_s rfl ?_ ?_ | refine t_cond_n rfl ?_ ?_ | refine t_cond rfl ?_ ?_ | refine c_split_d rfl rfl ?_ ?_ | refine c_split_i rfl rfl ?_ ?_ | refine c_split_j rfl rfl ?_ ?_ | refine c_split_s rfl rfl ?_ ?_ | refine c_split_n rfl rfl ?_ ?_) <;> intro <;> try (first | (rename_i hz; exact Bool.noConfusion (show true = false from hz)) | (rename_i hz; exact Bool.noConfusion (show false = true from hz)) | (exfalso; omega)))
        | ((first | refine r_val rfl rfl ?_ ?_ | refine r_gval rfl rfl rfl rfl ?_ ?_ | refine r_obj rfl rfl ?_ ?_ | refine r_sto rfl ?_ ?_ | refine r_gobj rfl rfl rfl rfl ?_ ?_); focus (first | omega | exact Nat.le_of_ble_eq_true rfl | (simp only [wrap_u8, IntKind.wrap_i64, IntKind.wrap_i32, wrap_u32', wrap_u64', InI]; (repeat' refine And.intro ?_ ?_) <;> omega) | ((repeat' refine And.intro ?_ ?_) <;> first | omega | rfl | exact Nat.le_refl _ | exact Nat.le_of_ble_eq_true rfl | exact bytesF_one _) | (simp_all; done) | (simp_all; omega)))
        | refine e_hit rfl ?_ | refine e_miss rfl ?_
        | with_reducible refine ⟨by kernel_rfl, ?_⟩ | refine x_end rfl ?_ | refine n_end rfl ?_ | ((with_reducible refine c_grd ?_); (fail_if_success (refine c_lit true rfl rfl rfl ?_)); (fail_if_success (refine c_lit false rfl rfl rfl ?_)); refine c_split rfl rfl (fun _ => ?_) (fun _ => ?_)))
      all_goals try (exfalso; first | exact m1 ‹_› | exact m2 ‹_› | exact m3 ‹_› | exact m4 ‹_› | exact m5 ‹_›)
      refine T.loop hL (fun i : Nat => [(0, .sl 1 b.length (bytesF b)), (1, .s name), (2, .s value), (8, .i .i64 i)]) (fun _ => []) (fun i => i ≤ value.length ∧ (value.take i).all vaO = true) (fun i => value.length - i) 0 ⟨Nat.zero_le _, by simp⟩
        ⟨⟨rfl, rfl, rfl, rfl, trivial⟩, trivial, rfl, fun q hq => by rw [hX] at hq; simp at hq⟩ ?_
      rintro i ⟨hi, hall⟩
      by_cases hil : i < value.length
      · have hst := allT (p := vaO) hil
        have ha := atN value i
        cases hc : vaO (value.getD i 0) with
        | true =>
          have hcc := of_decide_eq_true hc
          have hna : 32 ≤ at' value i ∧ ¬ at' value i = 127 := by omega
          clear hcc ha
          repeat' (first
            | with_reducible (first | refine t_seq ?_ | refine t_region ?_ | refine c_nil ?_ | refine n_then ?_ | refine t_ret ?_ | refine t_skip ?_ | refine t_exit ?_ | refine t_block ?_ | refine n_block ?_ | refine e_then ?_ | refine x_then ?_ | refine x_block ?_ | refine t_draw ?_)
            | refine r_val rfl rfl True.intro ?_ | refine r_gskip rfl rfl rfl ?_ | refine r_gskip2 rfl rfl rfl ?_ | refine r_gval rfl rfl rfl rfl True.intro ?_
            | refine t_true rfl ?_ | refine t_false rfl ?_
            | ((first | refine t_cond_d rfl ?_ ?_ | refine t_cond_i rfl ?_ ?_ | refine t_cond_j rfl ?_ ?_ | refine t_cond_s rfl ?_ ?_ | refine t_cond_n rfl ?_ ?_ | refine t_cond rfl ?_ ?_ | refine c_split_d rfl rfl ?_ ?_ | refine c_split_i rfl rfl ?_ ?_ | refine c_split_j rfl rfl ?_ ?_ | refine c_split_s rfl rfl ?_ ?_ | refine c_split_n rfl rfl ?_ ?_) <;> intro <;> try (first | (rename_i hz; exact Bool.noConfusion (show true = false from hz)) | (rename_i hz; exact Bool.noConfusion (show false = true from hz)) | (exfalso; omega)))
            | ((first | refine r_val rfl rfl ?_ ?_ | refine r_gval rfl rfl rfl rfl ?_ ?_ | refine r_obj rfl rfl ?_ ?_ | refine r_sto rfl ?_ ?_ | refine r_gobj rfl rfl rfl rfl ?_ ?_); focus (first | omega | exact Nat.le_of_ble_eq_true rfl | (simp only [wrap_u8, IntKind.wrap_i64, IntKind.wrap_i32, wrap_u32', wrap_u64', InI]; (repeat' refine And.intro ?_ ?_) <;> omega) | ((repeat' refine And.intro ?_ ?_) <;> first | omega | rfl | exact Nat.le_refl _ | exact Nat.le_of_ble_eq_true rfl | exact bytesF_one _) | (simp_all; done) | (simp_all; omega)))
            | refine e_hit rfl ?_ | refine e_miss rfl ?_
            | with_reducible refine ⟨by kernel_rfl, ?_⟩ | refine x_end rfl ?_ | refine n_end rfl ?_ | ((with_reducible refine c_grd ?_); (fail_if_success (refine c_lit true rfl rfl rfl ?_)); (fail_if_success (refine c_lit false rfl rfl rfl ?_)); refine c_split rfl rfl (fun _ => ?_) (fun _ => ?_)))
          all_goals exact ⟨i + 1, ⟨by omega, by rw [hst, hall, hc]; rfl⟩, by omega, ⟨rfl, rfl, rfl, congrArg (D.i .i64) (by omega), trivial⟩, trivial, rfl, fun q hq => by rw [hX] at hq; simp at hq⟩
        | false =>
          have hcc := of_decide_eq_false hc
          have hna : ¬ (32 ≤ at' value i ∧ ¬ at' value i = 127) := by omega
          clear hcc ha
          repeat' (first
            | refine r_call (f := 14) rfl rfl Tryd.call14 rfl c0 ?_
            | with_reducible (first | refine t_seq ?_ | refine t_region ?_ | refine c_nil ?_ | refine n_then ?_ | refine t_ret ?_ | refine t_skip ?_ | refine t_exit ?_ | refine t_block ?_ | refine n_block ?_ | refine e_then ?_ | refine x_then ?_ | refine x_block ?_ | refine t_draw ?_)
            | refine r_val rfl rfl True.intro ?_ | refine r_gskip rfl rfl rfl ?_ | refine r_gskip2 rfl rfl rfl ?_ | refine r_gval rfl rfl rfl rfl True.intro ?_
            | refine t_true rfl ?_ | refine t_false rfl ?_
            | ((first | refine t_cond_d rfl ?_ ?_ | refine t_cond_i rfl ?_ ?_ | refine t_cond_j rfl ?_ ?_ | refine t_cond_s rfl ?_ ?_ | refine t_cond_n rfl ?_ ?_ | refine t_cond rfl ?_ ?_ | refine c_split_d rfl rfl ?_ ?_ | refine c_split_i rfl rfl ?_ ?_ | refine c_split_j rfl rfl ?_ ?_ | refine c_split_s rfl rfl ?_ ?_ | refine c_split_n rfl rfl ?_ ?_) <;> intro <;> try (first | (rename_i hz; exact Bool.noConfusion (show true = false from hz)) | (rename_i hz; exact Bool.noConfusion (show false = true from hz)) | (exfalso; omega)))
            | ((first | refine r_val rfl rfl ?_ ?_ | refine r_gval rfl rfl rfl rfl ?_ ?_ | refine r_obj rfl rfl ?_ ?_ | refine r_sto rfl ?_ ?_ | refine r_gobj rfl rfl rfl rfl ?_ ?_); focus (first | omega | exact Nat.le_of_ble_eq_true rfl | (simp only [wrap_u8, IntKind.wrap_i64, IntKind.wrap_i32, wrap_u32', wrap_u64', InI]; (repeat' refine And.intro ?_ ?_) <;> omega) | ((repeat' refine And.intro ?_ ?_) <;> first | omega | rfl | exact Nat.le_refl _ | exact Nat.le_of_ble_eq_true rfl | exact bytesF_one _) | (simp_all; done) | (simp_all; omega)))
            | refine e_hit rfl ?_ | refine e_miss rfl ?_
            | with_reducible refine ⟨by kernel_rfl, ?_⟩ | refine x_end rfl ?_ | refine n_end rfl ?_ | ((with_reducible refine c_grd ?_); (fail_if_success (refine c_lit true rfl rfl rfl ?_)); (fail_if_success (refine c_lit false rfl rfl rfl ?_)); refine c_split rfl rfl (fun _ => ?_) (fun _ => ?_)))
          all_goals rfl
      · have : i = value.length := by omega
        subst this
        rw [List.take_length] at hall
        have e1 := parse_ctr b (by omega)
        cases hp : parP b with
        | none =>
          rw [hp] at e1
          repeat' (first
            | refine r_call (f := 19) rfl rfl Tryd.call19 rfl e1 ?_ | refine r_call (f := 14) rfl rfl Tryd.call14 rfl c0 ?_
            | with_reducible (first | refine t_seq ?_ | refine t_region ?_ | refine c_nil ?_ | refine n_then ?_ | refine t_ret ?_ | refine t_skip ?_ | refine t_exit ?_ | refine t_block ?_ | refine n_block ?_ | refine e_then ?_ | refine x_then ?_ | refine x_block ?_ | refine t_draw ?_)
            | refine r_val rfl rfl True.intro ?_ | refine r_gskip rfl rfl rfl ?_ | refine r_gskip2 rfl rfl rfl ?_ | refine r_gval rfl rfl rfl rfl True.intro ?_
            | refine t_true rfl ?_ | refine t_false rfl ?_
            | ((first | refine t_cond_d rfl ?_ ?_ | refine t_cond_i rfl ?_ ?_ | refine t_cond_j rfl ?_ ?_ | refine t_cond_s rfl ?_ ?_ | refine t_cond_n rfl ?_ ?_ | refine t_cond rfl ?_ ?_ | refine c_split_d rfl rfl ?_ ?_ | refine c_split_i rfl rfl ?_ ?_ | refine c_split_j rfl rfl ?_ ?_ | refine c_split_s rfl rfl ?_ ?_ | refine c_split_n rfl rfl ?_ ?_) <;> intro <;> try (first | (rename_i hz; exact Bool.noConfusion (show true = false from hz)) | (rename_i hz; exact Bool.noConfusion (show false = true from hz)) | (exfalso; omega)))
            | ((first | refine r_val rfl rfl ?_ ?_ | refine r_gval rfl rfl rfl rfl ?_ ?_ | refine r_obj rfl rfl ?_ ?_ | refine r_sto rfl ?_ ?_ | refine r_gobj rfl rfl rfl rfl ?_ ?_); focus (first | omega | exact Nat.le_of_ble_eq_true rfl | (simp only [wrap_u8, IntKind.wrap_i64, IntKind.wrap_i32, wrap_u32', wrap_u64', InI]; (repeat' refine And.intro ?_ ?_) <;> omega) | ((repeat' refine And.intro ?_ ?_) <;> first | omega | rfl | exact Nat.le_refl _ | exact Nat.le_of_ble_eq_true rfl | exact bytesF_one _) | (simp_all; done) | (simp_all; omega)))
            | refine e_hit rfl ?_ | refine e_miss rfl ?_
            | with_reducible refine ⟨by kernel_rfl, ?_⟩ | refine x_end rfl ?_ | refine n_end rfl ?_ | ((with_reducible refine c_grd ?_); (fail_if_success (refine c_lit true rfl rfl rfl ?_)); (fail_if_success (refine c_lit false rfl rfl rfl ?_)); refine c_split rfl rfl (fun _ => ?_) (fun _ => ?_)))
          all_goals rfl
        | some x =>
          rw [hp] at e1
          have hm := hop rfl ho hall hp
          have hml : (moreH b name value).length = b.length - 2 + (lineH name value ++ end4).length := by
            unfold moreH
            rw [List.length_append, List.length_take]
            omega
          have hll : (lineH name value ++ end4).length = name.length + value.length + 6 := by
            unfold lineH
            simp [end4]
            omega
          have e2 := parse_ctr (moreH b name value) (by omega)
          rw [hm, hml] at e2
          have hN : ((b.length : Int) - 2).toNat - Int.toNat 0 = b.length - 2 := by
            rw [show Int.toNat 0 = 0 from rfl]
            omega
          have e3 : Ctr Tryd.prog 19 [.sl 1 (0 + (((b.length : Int) - 2).toNat - Int.toNat 0) + (lineH name value ++ end4).length) (catF (0 + (((b.length : Int) - 2).toNat - Int.toNat 0)) (catF 0 (chunk 1 []) (((b.length : Int) - 2).toNat - Int.toNat 0) fun i => bytesF b (Int.toNat 0 + i)) (lineH name value ++ end4).length (bytesF (lineH name value ++ end4)))] (rqD (some x)) := by
            rw [hN, Nat.zero_add]
            have hF : ∀ i, i < b.length - 2 + (lineH name value ++ end4).length → catF (b.length - 2) (catF 0 (chunk 1 []) (b.length - 2) fun i => bytesF b (Int.toNat 0 + i)) (lineH name value ++ end4).length (bytesF (lineH name value ++ end4)) i = bytesF (moreH b name value) i := by
              intro i hi
              generalize hTT : lineH name value ++ end4 = T at *
              have hmo : moreH b name value = b.take (b.length - 2) ++ T := by
                unfold moreH
                rw [hTT]
              rw [hmo]
              unfold catF
              by_cases h : i < b.length - 2
              · rw [if_pos h, if_neg (by omega), if_pos (by omega)]
                unfold bytesF
                simp [List.getD_eq_getElem?_getD, List.getElem?_append_left (show i < (b.take (b.length - 2)).length by rw [List.length_take]; omega), List.getElem?_take, h, List.getElem?_eq_getElem (show i < b.length by omega)]
              · rw [if_neg h, if_pos hi]
                unfold bytesF
                simp [List.getD_eq_getElem?_getD, List.getElem?_append_right (show (b.take (b.length - 2)).length ≤ i by rw [List.length_take]; omega)]
            exact e2.weak1 (.sl _ _ _ _ (fun i hi => ⟨by rw [hF i hi], rfl⟩) (fun i j hi _ => .of_eq (by rw [hF i hi])))
          have hx : x.2.2.2.2.length ≤ 100000000 := Nat.le_trans (parR_len (b := b) (by omega) (by rw [← par_both]; exact hp)) (by decide)
          obtain ⟨m, p, g, a, t⟩ := x
          have c3 := same_ctr m p g a t hx
          clear e2 hop
          repeat' (first
            | refine r_call (f := 19) rfl rfl Tryd.call19 rfl e1 ?_ | refine r_call (f := 19) rfl rfl Tryd.call19 rfl e3 ?_ | refine r_gcall (f := 21) rfl rfl rfl rfl Tryd.call21 rfl c3 ?_ | refine r_gcall (f := 14) rfl rfl rfl rfl Tryd.call14 rfl c0 ?_ | refine r_call (f := 14) rfl rfl Tryd.call14 rfl c0 ?_
            | with_reducible (first | refine t_seq ?_ | refine t_region ?_ | refine c_nil ?_ | refine n_then ?_ | refine t_ret ?_ | refine t_skip ?_ | refine t_exit ?_ | refine t_block ?_ | refine n_block ?_ | refine e_then ?_ | refine x_then ?_ | refine x_block ?_ | refine t_draw ?_)
            | refine r_val rfl rfl True.intro ?_ | refine r_gskip rfl rfl rfl ?_ | refine r_gskip2 rfl rfl rfl ?_ | refine r_gval rfl rfl rfl rfl True.intro ?_
            | refine t_true rfl ?_ | refine t_false rfl ?_
            | ((first | refine t_cond_d rfl ?_ ?_ | refine t_cond_i rfl ?_ ?_ | refine t_cond_j rfl ?_ ?_ | refine t_cond_s rfl ?_ ?_ | refine t_cond_n rfl ?_ ?_ | refine t_cond rfl ?_ ?_ | refine c_split_d rfl rfl ?_ ?_ | refine c_split_i rfl rfl ?_ ?_ | refine c_split_j rfl rfl ?_ ?_ | refine c_split_s rfl rfl ?_ ?_ | refine c_split_n rfl rfl ?_ ?_) <;> intro <;> try (first | (rename_i hz; exact Bool.noConfusion (show true = false from hz)) | (rename_i hz; exact Bool.noConfusion (show false = true from hz)) | (exfalso; omega)))
            | ((first | refine r_val rfl rfl ?_ ?_ | refine r_gval rfl rfl rfl rfl ?_ ?_ | refine r_obj rfl rfl ?_ ?_ | refine r_sto rfl ?_ ?_ | refine r_gobj rfl rfl rfl rfl ?_ ?_); focus (first | omega | exact Nat.le_of_ble_eq_true rfl | (simp only [wrap_u8, IntKind.wrap_i64, IntKind.wrap_i32, wrap_u32', wrap_u64', InI]; (repeat' refine And.intro ?_ ?_) <;> omega) | ((repeat' refine And.intro ?_ ?_) <;> first | omega | rfl | exact Nat.le_refl _ | exact Nat.le_of_ble_eq_true rfl | exact bytesF_one _) | (simp_all; done) | (simp_all; omega)))
            | refine e_hit rfl ?_ | refine e_miss rfl ?_
            | with_reducible refine ⟨by kernel_rfl, ?_⟩ | refine x_end rfl ?_ | refine n_end rfl ?_ | ((with_reducible refine c_grd ?_); (fail_if_success (refine c_lit true rfl rfl rfl ?_)); (fail_if_success (refine c_lit false rfl rfl rfl ?_)); refine c_split rfl rfl (fun _ => ?_) (fun _ => ?_)))
          all_goals first
            | rfl
            | trace_state
    · clear hop hT
      cases tk with
      | false =>
        repeat' (first
          | refine r_call (f := 22) rfl rfl Tryd.call22 rfl d1 ?_ | refine r_call (f := 18) rfl rfl Tryd.call18 rfl d2 ?_ | refine r_call (f := 14) rfl rfl Tryd.call14 rfl c0 ?_
          | with_reducible (first | refine t_seq ?_ | refine t_region ?_ | refine c_nil ?_ | refine n_then ?_ | refine t_ret ?_ | refine t_skip ?_ | refine t_exit ?_ | refine t_block ?_ | refine n_block ?_ | refine e_then ?_ | refine x_then ?_ | refine x_block ?_ | refine t_draw ?_)
          | refine r_val rfl rfl True.intro ?_ | refine r_gskip rfl rfl rfl ?_ | refine r_gskip2 rfl rfl rfl ?_ | refine r_gval rfl rfl rfl rfl True.intro ?_
          | refine t_true rfl ?_ | refine t_false rfl ?_
          | ((first | refine t_cond_d rfl ?_ ?_ | refine t_cond_i rfl ?_ ?_ | refine t_cond_j rfl ?_ ?_ | refine t_cond_s rfl ?_ ?_ | refine t_cond_n rfl ?_ ?_ | refine t_cond rfl ?_ ?_ | refine c_split_d rfl rfl ?_ ?_ | refine c_split_i rfl rfl ?_ ?_ | refine c_split_j rfl rfl ?_ ?_ | refine c_split_s rfl rfl ?_ ?_ | refine c_split_n rfl rfl ?_ ?_) <;> intro <;> try (first | (rename_i hz; exact Bool.noConfusion (show true = false from hz)) | (rename_i hz; exact Bool.noConfusion (show false = true from hz)) | (exfalso; omega)))
          | ((first | refine r_val rfl rfl ?_ ?_ | refine r_gval rfl rfl rfl rfl ?_ ?_ | refine r_obj rfl rfl ?_ ?_ | refine r_sto rfl ?_ ?_ | refine r_gobj rfl rfl rfl rfl ?_ ?_); focus (first | omega | exact Nat.le_of_ble_eq_true rfl | (simp only [wrap_u8, IntKind.wrap_i64, IntKind.wrap_i32, wrap_u32', wrap_u64', InI]; (repeat' refine And.intro ?_ ?_) <;> omega) | ((repeat' refine And.intro ?_ ?_) <;> first | omega | rfl | exact Nat.le_refl _ | exact Nat.le_of_ble_eq_true rfl | exact bytesF_one _) | (simp_all; done) | (simp_all; omega)))
          | refine e_hit rfl ?_ | refine e_miss rfl ?_
          | with_reducible refine ⟨by kernel_rfl, ?_⟩ | refine x_end rfl ?_ | refine n_end rfl ?_ | ((with_reducible refine c_grd ?_); (fail_if_success (refine c_lit true rfl rfl rfl ?_)); (fail_if_success (refine c_lit false rfl rfl rfl ?_)); refine c_split rfl rfl (fun _ => ?_) (fun _ => ?_)))
        all_goals rfl
      | true =>
        have hc : nm = hostK ∨ nm = clenK ∨ nm = tencK ∨ nm = aceK ∨ nm = inmK := by
          by_cases g1 : nm = hostK
          · exact .inl g1
          · by_cases g2 : nm = clenK
            · exact .inr (.inl g2)
            · by_cases g3 : nm = tencK
              · exact .inr (.inr (.inl g3))
              · by_cases g4 : nm = aceK
                · exact .inr (.inr (.inr (.inl g4)))
                · by_cases g5 : nm = inmK
                  · exact .inr (.inr (.inr (.inr g5)))
                  · exact absurd ⟨rfl, g1, g2, g3, g4, g5⟩ hg
        rcases hc with rfl | rfl | rfl | rfl | rfl
        all_goals
          skip
          repeat' (first
            | refine r_call (f := 22) rfl rfl Tryd.call22 rfl d1 ?_ | refine r_call (f := 18) rfl rfl Tryd.call18 rfl d2 ?_ | refine r_call (f := 14) rfl rfl Tryd.call14 rfl c0 ?_
            | with_reducible (first | refine t_seq ?_ | refine t_region ?_ | refine c_nil ?_ | refine n_then ?_ | refine t_ret ?_ | refine t_skip ?_ | refine t_exit ?_ | refine t_block ?_ | refine n_block ?_ | refine e_then ?_ | refine x_then ?_ | refine x_block ?_ | refine t_draw ?_)
            | refine r_val rfl rfl True.intro ?_ | refine r_gskip rfl rfl rfl ?_ | refine r_gskip2 rfl rfl rfl ?_ | refine r_gval rfl rfl rfl rfl True.intro ?_
            | refine t_true rfl ?_ | refine t_false rfl ?_
            | ((first | refine t_cond_d rfl ?_ ?_ | refine t_cond_i rfl ?_ ?_ | refine t_cond_j rfl ?_ ?_ | refine t_cond_s rfl ?_ ?_ | refine t_cond_n rfl ?_ ?_ | refine t_cond rfl ?_ ?_ | refine c_split_d rfl rfl ?_ ?_ | refine c_split_i rfl rfl ?_ ?_ | refine c_split_j rfl rfl ?_ ?_ | refine c_split_s rfl rfl ?_ ?_ | refine c_split_n rfl rfl ?_ ?_) <;> intro <;> try (first | (rename_i hz; exact Bool.noConfusion (show true = false from hz)) | (rename_i hz; exact Bool.noConfusion (show false = true from hz)) | (exfalso; omega)))
            | ((first | refine r_val rfl rfl ?_ ?_ | refine r_gval rfl rfl rfl rfl ?_ ?_ | refine r_obj rfl rfl ?_ ?_ | refine r_sto rfl ?_ ?_ | refine r_gobj rfl rfl rfl rfl ?_ ?_); focus (first | omega | exact Nat.le_of_ble_eq_true rfl | (simp only [wrap_u8, IntKind.wrap_i64, IntKind.wrap_i32, wrap_u32', wrap_u64', InI]; (repeat' refine And.intro ?_ ?_) <;> omega) | ((repeat' refine And.intro ?_ ?_) <;> first | omega | rfl | exact Nat.le_refl _ | exact Nat.le_of_ble_eq_true rfl | exact bytesF_one _) | (simp_all; done) | (simp_all; omega)))
            | refine e_hit rfl ?_ | refine e_miss rfl ?_
            | with_reducible refine ⟨by kernel_rfl, ?_⟩ | refine x_end rfl ?_ | refine n_end rfl ?_ | ((with_reducible refine c_grd ?_); (fail_if_success (refine c_lit true rfl rfl rfl ?_)); (fail_if_success (refine c_lit false rfl rfl rfl ?_)); refine c_split rfl rfl (fun _ => ?_) (fun _ => ?_)))
          all_goals rfl
  · skip
    repeat' (first
      | refine r_call (f := 14) rfl rfl Tryd.call14 rfl c0 ?_
      | with_reducible (first | refine t_seq ?_ | refine t_region ?_ | refine c_nil ?_ | refine n_then ?_ | refine t_ret ?_ | refine t_skip ?_ | refine t_exit ?_ | refine t_block ?_ | refine n_block ?_ | refine e_then ?_ | refine x_then ?_ | refine x_block ?_ | refine t_draw ?_)
      | refine r_val rfl rfl True.intro ?_ | refine r_gskip rfl rfl rfl ?_ | refine r_gskip2 rfl rfl rfl ?_ | refine r_gval rfl rfl rfl rfl True.intro ?_
      | refine t_true rfl ?_ | refine t_false rfl ?_
      | ((first | refine t_cond_d rfl ?_ ?_ | refine t_cond_i rfl ?_ ?_ | refine t_cond_j rfl ?_ ?_ | refine t_cond_s rfl ?_ ?_ | refine t_cond_n rfl ?_ ?_ | refine t_cond rfl ?_ ?_ | refine c_split_d rfl rfl ?_ ?_ | refine c_split_i rfl rfl ?_ ?_ | refine c_split_j rfl rfl ?_ ?_ | refine c_split_s rfl rfl ?_ ?_ | refine c_split_n rfl rfl ?_ ?_) <;> intro <;> try (first | (rename_i hz; exact Bool.noConfusion (show true = false from hz)) | (rename_i hz; exact Bool.noConfusion (show false = true from hz)) | (exfalso; omega)))
      | ((first | refine r_val rfl rfl ?_ ?_ | refine r_gval rfl rfl rfl rfl ?_ ?_ | refine r_obj rfl rfl ?_ ?_ | refine r_sto rfl ?_ ?_ | refine r_gobj rfl rfl rfl rfl ?_ ?_); focus (first | omega | exact Nat.le_of_ble_eq_true rfl | (simp only [wrap_u8, IntKind.wrap_i64, IntKind.wrap_i32, wrap_u32', wrap_u64', InI]; (repeat' refine And.intro ?_ ?_) <;> omega) | ((repeat' refine And.intro ?_ ?_) <;> first | omega | rfl | exact Nat.le_refl _ | exact Nat.le_of_ble_eq_true rfl | exact bytesF_one _) | (simp_all; done) | (simp_all; omega)))
      | refine e_hit rfl ?_ | refine e_miss rfl ?_
      | with_reducible refine ⟨by kernel_rfl, ?_⟩ | refine x_end rfl ?_ | refine n_end rfl ?_ | ((with_reducible refine c_grd ?_); (fail_if_success (refine c_lit true rfl rfl rfl ?_)); (fail_if_success (refine c_lit false rfl rfl rfl ?_)); refine c_split rfl rfl (fun _ => ?_) (fun _ => ?_)))
    all_goals rfl

end Go.Proofs.YtghdgjabpdfaoaaDoor.Flow

/-
  FLOW, PART Q: FROM A CONTRACT TO A STATEMENT: what a call that writes into new memory alone leaves of its arguments.
-/
namespace Go.Proofs.YtghdgjabpdfaoaaDoor.Flow
open Go.ChangeShapes Go.WideShapes Go.ChangeAt Go.RowKit

theorem prog_own : ownKnob Tryd.prog.godebug = none := by kernel_rfl
theorem prog_laid : laidOutB Tryd.prog = true := by kernel_rfl

variable {H : Type} {enc : TypeId × Value → H}

/-- The cells that are there when a call begins. -/
def allOf (W : World) : Cells := fun b _ => b < W.heap.size

theorem below_of_hist {W W' : World} {S' : Cells} (h : Hist { w0 := W, S0 := allOf W, L := fun _ => False } W' S') : Below W.heap.size W W' :=
  ⟨h.os, h.tape, h.output, h.size, fun k hk => h.block k hk (fun h => h)⟩

theorem trodAll_below {W W' : World} (hb : Below W.heap.size W W') {sp : Nat → Bool} : ∀ {ts : List TypeId} {vs : List Value} {ds : List (DataW H)} {ps : List MemPlace}, (∀ t ∈ ts, Tryd.prog.readableRec t = true ∧ t < Tryd.prog.types.size) → (∀ x ∈ ps, x.block < W.heap.size) →
    DataW.TrodAll enc Tryd.prog W 0 (fun _ => true) true ts vs ds ps → (∀ p ∈ ps, sp p.block = true) → DataW.TrodAll enc Tryd.prog W' 0 sp true ts vs ds ps
  | [], [], [], _, _, _, h, _ => h
  | [], [], _ :: _, _, _, _, h, _ => h.elim
  | [], _ :: _, _, _, _, _, h, _ => h.elim
  | _ :: _, [], _, _, _, _, h, _ => h.elim
  | _ :: _, _ :: _, [], _, _, _, h, _ => h.elim
  | t :: ts, v :: vs, d :: ds, ps, ht, hlt, h, hsp => by
    obtain ⟨p, q, h1, h2, rfl⟩ := h
    refine ⟨p, q, ?_, trodAll_below hb (fun t ht' => ht t (by simp [ht'])) (fun x hx => hlt x (by simp [hx])) h2 (fun x hx => hsp x (by simp [hx])), rfl⟩
    exact WideElems.Trod_stays prog_laid (ht t (by simp)).1 (ht t (by simp)).2 h1 (fun x hx => hb.same (hlt x (by simp [hx]))) (fun x hx => hsp x (by simp [hx]))

/-- THE STATEMENT's CONDITION BEHIND A CALL THAT ANSWERS true AND WRITES INTO NEW MEMORY ALONE. -/
theorem law_post {f : Func} {s : ChangeSpec} {apart fresh handsOn : Bool} {W W' : World} {args : Array Value} {ds gs : List (DataW H)} {before : List MemPlace} {t : TypeId}
    (hW : DataW.Whole enc Tryd.prog f.params.toList s.vars apart W args.toList ds gs before) (hvars : s.vars = []) (hpar : ∀ t ∈ f.params.toList, Tryd.prog.readableRec t = true ∧ t < Tryd.prog.types.size)
    (hres : f.resultTypes = #[t]) (ht : Tryd.prog.underlying t = some .bool) (hspec : s.fn H (ds ++ gs) = { results := [.lit (.bool true)], args := ds }) (hb : Below W.heap.size W W') :
    s.post enc Tryd.prog f apart fresh handsOn false W args (.bool true) W' := by
  have hW' := hW
  obtain ⟨p, q, hA, hV, rfl, hfz, hnd⟩ := hW
  rw [hvars] at hV
  have hq : gs = [] ∧ q = [] := by
    cases gs with
    | nil => exact ⟨rfl, hV⟩
    | cons => exact hV.elim
  obtain ⟨rfl, rfl⟩ := hq
  have hlt : ∀ x ∈ p, x.block < W.heap.size := fun x hx => by simpa using hW'.lt x (by simpa using hx)
  refine ⟨ds, [], p ++ [], [], p, [], hW', ?_, ?_, ?_, hb.frame _, fun h => nomatch h⟩
  · rw [hspec, hres]
    exact trodAll_mk1 (shut_bool ht true)
  · rw [hspec]
    exact trodAll_below hb hpar hlt hA (fun x hx => by simpa using hlt x hx)
  · rw [hspec, hvars]
    rfl

end Go.Proofs.YtghdgjabpdfaoaaDoor.Flow
