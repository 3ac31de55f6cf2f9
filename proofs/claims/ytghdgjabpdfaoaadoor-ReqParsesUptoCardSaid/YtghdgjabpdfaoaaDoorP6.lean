/- The texts W2, W3, FlowY, W4, one behind the other. -/
import Derived.Test.YtghdgjabpdfaoaaDoorP4
import Derived.Test.YtghdgjabpdfaoaaDoorP5
import Derived.MapKept
/- REQ: qualities, by both. -/
namespace Go.Proofs.YtghdgjabpdfaoaaDoor.Flow
open Go

def goQ (u n : Int) : List UInt8 → Option Int
  | [] => some n
  | c :: r => if 48 ≤ (c.toNat : Int) ∧ (c.toNat : Int) ≤ 57 then goQ (u / 10) (n + u * ((c.toNat : Int) - 48)) r else none

theorem goQ_at {s : List UInt8} {u n : Int} {i : Nat} (h : i < s.length) : goQ u n (s.drop i) = if 48 ≤ at' s i ∧ at' s i ≤ 57 then goQ (u / 10) (n + u * (at' s i - 48)) (s.drop (i + 1)) else none := by
  have e : at' s i = (s[i].toNat : Int) := by simp [at', List.getD_eq_getElem?_getD, h]
  rw [List.drop_eq_getElem_cons h, e]
  rfl
theorem goQ_end {s : List UInt8} {u n : Int} {i : Nat} (h : s.length ≤ i) : goQ u n (s.drop i) = some n := by
  rw [List.drop_eq_nil_of_le h]
  rfl
theorem goQ_add : ∀ (l : List UInt8) (u n k : Int), goQ u (n + k) l = (goQ u n l).map (· + k)
  | [], _, _, _ => rfl
  | c :: r, u, n, k => by
    unfold goQ
    split
    · rw [← goQ_add r (u / 10) (n + u * ((c.toNat : Int) - 48)) k]
      congr 1
      omega
    · rfl
theorem goQ_le {l : List UInt8} {m : Int} (hl : l.length ≤ 3) (h : goQ 100 0 l = some m) : 0 ≤ m ∧ m ≤ 999 := by
  match l, hl with
  | [], _ =>
    cases h
    omega
  | [a], _ =>
    simp only [goQ] at h
    split at h
    · cases h; omega
    · cases h
  | [a, b], _ =>
    simp only [goQ] at h
    split at h
    · split at h
      · cases h
        omega
      · cases h
    · cases h
  | [a, b, c], _ =>
    simp only [goQ] at h
    split at h
    · split at h
      · split at h
        · cases h
          omega
        · cases h
      · cases h
    · cases h
  | _ :: _ :: _ :: _ :: _, h => simp at h

def qualV (s : List UInt8) : Int × Bool :=
  if s.length = 0 ∨ (¬ at' s 0 = 48 ∧ ¬ at' s 0 = 49) ∨ 5 < s.length ∨ (1 < s.length ∧ ¬ at' s 1 = 46) then (0, false)
  else match goQ 100 0 (s.drop 2) with
    | none => (0, false)
    | some n => if at' s 0 = 48 then (n, true) else if 0 < n then (0, false) else (1000, true)

def qualD (s : List UInt8) : D := .tu [.i .i64 (qualV s).1, .b (qualV s).2]

theorem qual_bad {s : List UInt8} (h : s.length = 0 ∨ (¬ at' s 0 = 48 ∧ ¬ at' s 0 = 49) ∨ 5 < s.length ∨ (1 < s.length ∧ ¬ at' s 1 = 46)) : qualD s = .tu [.i .i64 0, .b false] := by
  unfold qualD qualV
  rw [if_pos h]
theorem qual_none {s : List UInt8} (h : goQ 100 0 (s.drop 2) = none) : qualD s = .tu [.i .i64 0, .b false] := by
  unfold qualD qualV
  split
  · rfl
  · rw [h]
theorem qual_some {s : List UInt8} {m : Int} (hb : ¬ (s.length = 0 ∨ (¬ at' s 0 = 48 ∧ ¬ at' s 0 = 49) ∨ 5 < s.length ∨ (1 < s.length ∧ ¬ at' s 1 = 46))) (h : goQ 100 0 (s.drop 2) = some m) :
    qualD s = if at' s 0 = 48 then .tu [.i .i64 m, .b true] else if 0 < m then .tu [.i .i64 0, .b false] else .tu [.i .i64 1000, .b true] := by
  unfold qualD qualV
  rw [if_neg hb, h]
  dsimp only
  split
  · rfl
  · split <;> rfl

def uF : Nat → Int
  | 2 => 100
  | 3 => 10
  | 4 => 1
  | _ => 0

structure QInv (s : List UInt8) (k : Int) (x : Nat × Int) : Prop where
  out : goQ (uF x.1) x.2 (s.drop x.1) = goQ 100 k (s.drop 2)

set_option maxRecDepth 100000 in
set_option maxHeartbeats 1000000 in
theorem quality_ctr (s : List UInt8) (hs : s.length ≤ 1000000) : Ctr Tryd.prog 15 [.s s] (qualD s) := by
  refine r_fun Tryd.func15 rfl Tryd.ntmps15 Tryd.results15 rfl rfl fun X hL hX => ?_
  cases s with
  | nil =>
    repeat' (first
      | with_reducible (first | refine t_seq ?_ | refine t_region ?_ | refine c_nil ?_ | refine n_then ?_ | refine t_ret ?_ | refine t_skip ?_ | refine t_exit ?_ | refine t_block ?_ | refine n_block ?_ | refine e_then ?_ | refine x_then ?_ | refine x_block ?_ | refine t_draw ?_)
      | refine r_val rfl rfl True.intro ?_ | refine r_gskip rfl rfl rfl ?_ | refine r_gskip2 rfl rfl rfl ?_ | refine r_gval rfl rfl rfl rfl True.intro ?_
      | refine t_true rfl ?_ | refine t_false rfl ?_
      | ((first | refine t_cond_d rfl ?_ ?_ | refine t_cond_i rfl ?_ ?_ | refine t_cond_j rfl ?_ ?_ | refine t_cond_s rfl ?_ ?_ | refine t_cond_n rfl ?_ ?_ | refine t_cond rfl ?_ ?_ | refine c_split_d rfl rfl ?_ ?_ | refine c_split_i rfl rfl ?_ ?_ | refine c_split_j rfl rfl ?_ ?_ | refine c_split_s rfl rfl ?_ ?_ | refine c_split_n rfl rfl ?_ ?_) <;> intro <;> try (first | contradiction | (exfalso; omega)))
      | ((first | refine r_val rfl rfl ?_ ?_ | refine r_gval rfl rfl rfl rfl ?_ ?_ | refine r_obj rfl rfl ?_ ?_ | refine r_sto rfl ?_ ?_ | refine r_gobj rfl rfl rfl rfl ?_ ?_); focus (first | omega | exact Nat.le_of_ble_eq_true rfl | (simp_all; done) | (simp_all; omega) | ((repeat' refine And.intro ?_ ?_) <;> first | omega | rfl | exact Nat.le_refl _ | exact Nat.le_of_ble_eq_true rfl | exact bytesF_one _ | (simp_all; done) | (simp_all; omega))))
      | refine e_hit rfl ?_ | refine e_miss rfl ?_
      | with_reducible refine ⟨by kernel_rfl, ?_⟩ | refine x_end rfl ?_ | refine n_end rfl ?_ | ((with_reducible refine c_grd ?_); (fail_if_success (refine c_lit true rfl rfl rfl ?_)); (fail_if_success (refine c_lit false rfl rfl rfl ?_)); refine c_split rfl rfl (fun _ => ?_) (fun _ => ?_)))
    all_goals exact (qual_bad (.inl rfl)).symm
  | cons c r =>
    have hlen : (c :: r).length = r.length + 1 := rfl
    by_cases hb : (c :: r).length = 0 ∨ (¬ at' (c :: r) 0 = 48 ∧ ¬ at' (c :: r) 0 = 49) ∨ 5 < (c :: r).length ∨ (1 < (c :: r).length ∧ ¬ at' (c :: r) 1 = 46)
    · rw [qual_bad hb]
      repeat' (first
        | with_reducible (first | refine t_seq ?_ | refine t_region ?_ | refine c_nil ?_ | refine n_then ?_ | refine t_ret ?_ | refine t_skip ?_ | refine t_exit ?_ | refine t_block ?_ | refine n_block ?_ | refine e_then ?_ | refine x_then ?_ | refine x_block ?_ | refine t_draw ?_)
        | refine r_val rfl rfl True.intro ?_ | refine r_gskip rfl rfl rfl ?_ | refine r_gskip2 rfl rfl rfl ?_ | refine r_gval rfl rfl rfl rfl True.intro ?_
        | refine t_true rfl ?_ | refine t_false rfl ?_
        | ((first | refine t_cond_d rfl ?_ ?_ | refine t_cond_i rfl ?_ ?_ | refine t_cond_j rfl ?_ ?_ | refine t_cond_s rfl ?_ ?_ | refine t_cond_n rfl ?_ ?_ | refine t_cond rfl ?_ ?_ | refine c_split_d rfl rfl ?_ ?_ | refine c_split_i rfl rfl ?_ ?_ | refine c_split_j rfl rfl ?_ ?_ | refine c_split_s rfl rfl ?_ ?_ | refine c_split_n rfl rfl ?_ ?_) <;> intro <;> try (first | contradiction | (exfalso; omega)))
        | ((first | refine r_val rfl rfl ?_ ?_ | refine r_gval rfl rfl rfl rfl ?_ ?_ | refine r_obj rfl rfl ?_ ?_ | refine r_sto rfl ?_ ?_ | refine r_gobj rfl rfl rfl rfl ?_ ?_); focus (first | omega | exact Nat.le_of_ble_eq_true rfl | (simp_all; done) | (simp_all; omega) | ((repeat' refine And.intro ?_ ?_) <;> first | omega | rfl | exact Nat.le_refl _ | exact Nat.le_of_ble_eq_true rfl | exact bytesF_one _ | (simp_all; done) | (simp_all; omega))))
        | refine e_hit rfl ?_ | refine e_miss rfl ?_
        | with_reducible refine ⟨by kernel_rfl, ?_⟩ | refine x_end rfl ?_ | refine n_end rfl ?_ | ((with_reducible refine c_grd ?_); (fail_if_success (refine c_lit true rfl rfl rfl ?_)); (fail_if_success (refine c_lit false rfl rfl rfl ?_)); refine c_split rfl rfl (fun _ => ?_) (fun _ => ?_)))
      all_goals first | rfl | (exfalso; omega)
    · have r0 := at_range (c :: r) 0
      repeat' (first
        | with_reducible (first | refine t_seq ?_ | refine t_region ?_ | refine c_nil ?_ | refine n_then ?_ | refine t_ret ?_ | refine t_skip ?_ | refine t_exit ?_ | refine t_block ?_ | refine n_block ?_ | refine e_then ?_ | refine x_then ?_ | refine x_block ?_ | refine t_draw ?_)
        | refine r_val rfl rfl True.intro ?_ | refine r_gskip rfl rfl rfl ?_ | refine r_gskip2 rfl rfl rfl ?_ | refine r_gval rfl rfl rfl rfl True.intro ?_
        | refine t_true rfl ?_ | refine t_false rfl ?_
        | ((first | refine t_cond_d rfl ?_ ?_ | refine t_cond_i rfl ?_ ?_ | refine t_cond_j rfl ?_ ?_ | refine t_cond_s rfl ?_ ?_ | refine t_cond_n rfl ?_ ?_ | refine t_cond rfl ?_ ?_ | refine c_split_d rfl rfl ?_ ?_ | refine c_split_i rfl rfl ?_ ?_ | refine c_split_j rfl rfl ?_ ?_ | refine c_split_s rfl rfl ?_ ?_ | refine c_split_n rfl rfl ?_ ?_) <;> intro <;> try (first | contradiction | (exfalso; omega)))
        | ((first | refine r_val rfl rfl ?_ ?_ | refine r_gval rfl rfl rfl rfl ?_ ?_ | refine r_obj rfl rfl ?_ ?_ | refine r_sto rfl ?_ ?_ | refine r_gobj rfl rfl rfl rfl ?_ ?_); focus (first | omega | exact Nat.le_of_ble_eq_true rfl | (simp_all; done) | (simp_all; omega) | ((repeat' refine And.intro ?_ ?_) <;> first | omega | rfl | exact Nat.le_refl _ | exact Nat.le_of_ble_eq_true rfl | exact bytesF_one _ | (simp_all; done) | (simp_all; omega))))
        | refine e_hit rfl ?_ | refine e_miss rfl ?_
        | with_reducible refine ⟨by kernel_rfl, ?_⟩ | ((with_reducible refine c_grd ?_); (fail_if_success (refine c_lit true rfl rfl rfl ?_)); (fail_if_success (refine c_lit false rfl rfl rfl ?_)); refine c_split rfl rfl (fun _ => ?_) (fun _ => ?_)))
      all_goals refine T.loop hL (fun x : Nat × Int => [(0, .s (c :: r)), (4, .i .i64 x.2), (5, .i .i64 (uF x.1)), (6, .i .i64 x.1)]) (fun _ => []) (fun x => 2 ≤ x.1 ∧ x.1 ≤ 6 ∧ 0 ≤ x.2 ∧ x.2 ≤ 1000000 * x.1 ∧ QInv (c :: r) 0 x) (fun x => 6 - x.1) (2, 0) ⟨by omega, by omega, by omega, by omega, ⟨rfl⟩⟩ ⟨⟨rfl, rfl, rfl, rfl, trivial⟩, trivial, rfl, fun q hq => by rw [hX] at hq; simp at hq⟩ ?_
      all_goals
        rintro ⟨i, n⟩ ⟨h1, h2, h3, h4, ⟨h5⟩⟩
        dsimp only at h1 h2 h3 h4 h5 ⊢
        by_cases hi : i < (c :: r).length
        · obtain rfl | rfl | rfl : i = 2 ∨ i = 3 ∨ i = 4 := by omega
          · have hr := at_range (c :: r) ((2 : Nat) : Int)
            have hst := goQ_at (u := uF 2) (n := n) hi
            rw [h5] at hst
            dsimp only [uF]
            by_cases hd : 48 ≤ at' (c :: r) ((2 : Nat) : Int) ∧ at' (c :: r) ((2 : Nat) : Int) ≤ 57
            · rw [if_pos hd] at hst
              rw [show uF 2 / 10 = uF 3 from by decide, show uF 2 = 100 from rfl] at hst
              repeat' (first
                | with_reducible (first | refine t_seq ?_ | refine t_region ?_ | refine c_nil ?_ | refine n_then ?_ | refine t_ret ?_ | refine t_skip ?_ | refine t_exit ?_ | refine t_block ?_ | refine n_block ?_ | refine e_then ?_ | refine x_then ?_ | refine x_block ?_ | refine t_draw ?_)
                | refine r_val rfl rfl True.intro ?_ | refine r_gskip rfl rfl rfl ?_ | refine r_gskip2 rfl rfl rfl ?_ | refine r_gval rfl rfl rfl rfl True.intro ?_
                | refine t_true rfl ?_ | refine t_false rfl ?_
                | ((first | refine t_cond_d rfl ?_ ?_ | refine t_cond_i rfl ?_ ?_ | refine t_cond_j rfl ?_ ?_ | refine t_cond_s rfl ?_ ?_ | refine t_cond_n rfl ?_ ?_ | refine t_cond rfl ?_ ?_ | refine c_split_d rfl rfl ?_ ?_ | refine c_split_i rfl rfl ?_ ?_ | refine c_split_j rfl rfl ?_ ?_ | refine c_split_s rfl rfl ?_ ?_ | refine c_split_n rfl rfl ?_ ?_) <;> intro <;> try (first | (rename_i hz; exact Bool.noConfusion (show true = false from hz)) | (rename_i hz; exact Bool.noConfusion (show false = true from hz)) | (exfalso; omega)))
                | ((first | refine r_val rfl rfl ?_ ?_ | refine r_gval rfl rfl rfl rfl ?_ ?_ | refine r_obj rfl rfl ?_ ?_ | refine r_sto rfl ?_ ?_ | refine r_gobj rfl rfl rfl rfl ?_ ?_); focus (first | omega | exact Nat.le_of_ble_eq_true rfl | (simp only [wrap_u8, IntKind.wrap_i64, IntKind.wrap_i32, wrap_u32', wrap_u64', InI]; (repeat' refine And.intro ?_ ?_) <;> omega) | ((repeat' refine And.intro ?_ ?_) <;> first | omega | rfl | exact Nat.le_refl _ | exact Nat.le_of_ble_eq_true rfl | exact bytesF_one _) | (simp_all; done) | (simp_all; omega)))
                | refine e_hit rfl ?_ | refine e_miss rfl ?_
                | with_reducible refine ⟨by kernel_rfl, ?_⟩ | ((with_reducible refine c_grd ?_); (fail_if_success (refine c_lit true rfl rfl rfl ?_)); (fail_if_success (refine c_lit false rfl rfl rfl ?_)); refine c_split rfl rfl (fun _ => ?_) (fun _ => ?_)))
              all_goals exact ⟨(3, n + 100 * (at' (c :: r) ((2 : Nat) : Int) - 48)), ⟨by omega, by omega, by omega, by omega, ⟨hst.symm⟩⟩, by dsimp only; omega, ⟨rfl, congrArg (D.i .i64) (by simp only [wrap_u8, IntKind.wrap_i64]; omega), rfl, congrArg (D.i .i64) (by omega), trivial⟩, trivial, rfl, fun q hq => by rw [hX] at hq; simp at hq⟩
            · rw [if_neg hd] at hst
              rw [qual_none hst]
              repeat' (first
                | with_reducible (first | refine t_seq ?_ | refine t_region ?_ | refine c_nil ?_ | refine n_then ?_ | refine t_ret ?_ | refine t_skip ?_ | refine t_exit ?_ | refine t_block ?_ | refine n_block ?_ | refine e_then ?_ | refine x_then ?_ | refine x_block ?_ | refine t_draw ?_)
                | refine r_val rfl rfl True.intro ?_ | refine r_gskip rfl rfl rfl ?_ | refine r_gskip2 rfl rfl rfl ?_ | refine r_gval rfl rfl rfl rfl True.intro ?_
                | refine t_true rfl ?_ | refine t_false rfl ?_
                | ((first | refine t_cond_d rfl ?_ ?_ | refine t_cond_i rfl ?_ ?_ | refine t_cond_j rfl ?_ ?_ | refine t_cond_s rfl ?_ ?_ | refine t_cond_n rfl ?_ ?_ | refine t_cond rfl ?_ ?_ | refine c_split_d rfl rfl ?_ ?_ | refine c_split_i rfl rfl ?_ ?_ | refine c_split_j rfl rfl ?_ ?_ | refine c_split_s rfl rfl ?_ ?_ | refine c_split_n rfl rfl ?_ ?_) <;> intro <;> try (first | (rename_i hz; exact Bool.noConfusion (show true = false from hz)) | (rename_i hz; exact Bool.noConfusion (show false = true from hz)) | (exfalso; omega)))
                | ((first | refine r_val rfl rfl ?_ ?_ | refine r_gval rfl rfl rfl rfl ?_ ?_ | refine r_obj rfl rfl ?_ ?_ | refine r_sto rfl ?_ ?_ | refine r_gobj rfl rfl rfl rfl ?_ ?_); focus (first | omega | exact Nat.le_of_ble_eq_true rfl | (simp only [wrap_u8, IntKind.wrap_i64, IntKind.wrap_i32, wrap_u32', wrap_u64', InI]; (repeat' refine And.intro ?_ ?_) <;> omega) | ((repeat' refine And.intro ?_ ?_) <;> first | omega | rfl | exact Nat.le_refl _ | exact Nat.le_of_ble_eq_true rfl | exact bytesF_one _) | (simp_all; done) | (simp_all; omega)))
                | refine e_hit rfl ?_ | refine e_miss rfl ?_
                | with_reducible refine ⟨by kernel_rfl, ?_⟩ | refine x_end rfl ?_ | refine n_end rfl ?_ | ((with_reducible refine c_grd ?_); (fail_if_success (refine c_lit true rfl rfl rfl ?_)); (fail_if_success (refine c_lit false rfl rfl rfl ?_)); refine c_split rfl rfl (fun _ => ?_) (fun _ => ?_)))
              all_goals rfl
          · have hr := at_range (c :: r) ((3 : Nat) : Int)
            have hst := goQ_at (u := uF 3) (n := n) hi
            rw [h5] at hst
            dsimp only [uF]
            by_cases hd : 48 ≤ at' (c :: r) ((3 : Nat) : Int) ∧ at' (c :: r) ((3 : Nat) : Int) ≤ 57
            · rw [if_pos hd] at hst
              rw [show uF 3 / 10 = uF 4 from by decide, show uF 3 = 10 from rfl] at hst
              repeat' (first
                | with_reducible (first | refine t_seq ?_ | refine t_region ?_ | refine c_nil ?_ | refine n_then ?_ | refine t_ret ?_ | refine t_skip ?_ | refine t_exit ?_ | refine t_block ?_ | refine n_block ?_ | refine e_then ?_ | refine x_then ?_ | refine x_block ?_ | refine t_draw ?_)
                | refine r_val rfl rfl True.intro ?_ | refine r_gskip rfl rfl rfl ?_ | refine r_gskip2 rfl rfl rfl ?_ | refine r_gval rfl rfl rfl rfl True.intro ?_
                | refine t_true rfl ?_ | refine t_false rfl ?_
                | ((first | refine t_cond_d rfl ?_ ?_ | refine t_cond_i rfl ?_ ?_ | refine t_cond_j rfl ?_ ?_ | refine t_cond_s rfl ?_ ?_ | refine t_cond_n rfl ?_ ?_ | refine t_cond rfl ?_ ?_ | refine c_split_d rfl rfl ?_ ?_ | refine c_split_i rfl rfl ?_ ?_ | refine c_split_j rfl rfl ?_ ?_ | refine c_split_s rfl rfl ?_ ?_ | refine c_split_n rfl rfl ?_ ?_) <;> intro <;> try (first | (rename_i hz; exact Bool.noConfusion (show true = false from hz)) | (rename_i hz; exact Bool.noConfusion (show false = true from hz)) | (exfalso; omega)))
                | ((first | refine r_val rfl rfl ?_ ?_ | refine r_gval rfl rfl rfl rfl ?_ ?_ | refine r_obj rfl rfl ?_ ?_ | refine r_sto rfl ?_ ?_ | refine r_gobj rfl rfl rfl rfl ?_ ?_); focus (first | omega | exact Nat.le_of_ble_eq_true rfl | (simp only [wrap_u8, IntKind.wrap_i64, IntKind.wrap_i32, wrap_u32', wrap_u64', InI]; (repeat' refine And.intro ?_ ?_) <;> omega) | ((repeat' refine And.intro ?_ ?_) <;> first | omega | rfl | exact Nat.le_refl _ | exact Nat.le_of_ble_eq_true rfl | exact bytesF_one _) | (simp_all; done) | (simp_all; omega)))
                | refine e_hit rfl ?_ | refine e_miss rfl ?_
                | with_reducible refine ⟨by kernel_rfl, ?_⟩ | ((with_reducible refine c_grd ?_); (fail_if_success (refine c_lit true rfl rfl rfl ?_)); (fail_if_success (refine c_lit false rfl rfl rfl ?_)); refine c_split rfl rfl (fun _ => ?_) (fun _ => ?_)))
              all_goals exact ⟨(4, n + 10 * (at' (c :: r) ((3 : Nat) : Int) - 48)), ⟨by omega, by omega, by omega, by omega, ⟨hst.symm⟩⟩, by dsimp only; omega, ⟨rfl, congrArg (D.i .i64) (by simp only [wrap_u8, IntKind.wrap_i64]; omega), rfl, congrArg (D.i .i64) (by omega), trivial⟩, trivial, rfl, fun q hq => by rw [hX] at hq; simp at hq⟩
            · rw [if_neg hd] at hst
              rw [qual_none hst]
              repeat' (first
                | with_reducible (first | refine t_seq ?_ | refine t_region ?_ | refine c_nil ?_ | refine n_then ?_ | refine t_ret ?_ | refine t_skip ?_ | refine t_exit ?_ | refine t_block ?_ | refine n_block ?_ | refine e_then ?_ | refine x_then ?_ | refine x_block ?_ | refine t_draw ?_)
                | refine r_val rfl rfl True.intro ?_ | refine r_gskip rfl rfl rfl ?_ | refine r_gskip2 rfl rfl rfl ?_ | refine r_gval rfl rfl rfl rfl True.intro ?_
                | refine t_true rfl ?_ | refine t_false rfl ?_
                | ((first | refine t_cond_d rfl ?_ ?_ | refine t_cond_i rfl ?_ ?_ | refine t_cond_j rfl ?_ ?_ | refine t_cond_s rfl ?_ ?_ | refine t_cond_n rfl ?_ ?_ | refine t_cond rfl ?_ ?_ | refine c_split_d rfl rfl ?_ ?_ | refine c_split_i rfl rfl ?_ ?_ | refine c_split_j rfl rfl ?_ ?_ | refine c_split_s rfl rfl ?_ ?_ | refine c_split_n rfl rfl ?_ ?_) <;> intro <;> try (first | (rename_i hz; exact Bool.noConfusion (show true = false from hz)) | (rename_i hz; exact Bool.noConfusion (show false = true from hz)) | (exfalso; omega)))
                | ((first | refine r_val rfl rfl ?_ ?_ | refine r_gval rfl rfl rfl rfl ?_ ?_ | refine r_obj rfl rfl ?_ ?_ | refine r_sto rfl ?_ ?_ | refine r_gobj rfl rfl rfl rfl ?_ ?_); focus (first | omega | exact Nat.le_of_ble_eq_true rfl | (simp only [wrap_u8, IntKind.wrap_i64, IntKind.wrap_i32, wrap_u32', wrap_u64', InI]; (repeat' refine And.intro ?_ ?_) <;> omega) | ((repeat' refine And.intro ?_ ?_) <;> first | omega | rfl | exact Nat.le_refl _ | exact Nat.le_of_ble_eq_true rfl | exact bytesF_one _) | (simp_all; done) | (simp_all; omega)))
                | refine e_hit rfl ?_ | refine e_miss rfl ?_
                | with_reducible refine ⟨by kernel_rfl, ?_⟩ | refine x_end rfl ?_ | refine n_end rfl ?_ | ((with_reducible refine c_grd ?_); (fail_if_success (refine c_lit true rfl rfl rfl ?_)); (fail_if_success (refine c_lit false rfl rfl rfl ?_)); refine c_split rfl rfl (fun _ => ?_) (fun _ => ?_)))
              all_goals rfl
          · have hr := at_range (c :: r) ((4 : Nat) : Int)
            have hst := goQ_at (u := uF 4) (n := n) hi
            rw [h5] at hst
            dsimp only [uF]
            by_cases hd : 48 ≤ at' (c :: r) ((4 : Nat) : Int) ∧ at' (c :: r) ((4 : Nat) : Int) ≤ 57
            · rw [if_pos hd] at hst
              rw [show uF 4 / 10 = uF 5 from by decide, show uF 4 = 1 from rfl] at hst
              repeat' (first
                | with_reducible (first | refine t_seq ?_ | refine t_region ?_ | refine c_nil ?_ | refine n_then ?_ | refine t_ret ?_ | refine t_skip ?_ | refine t_exit ?_ | refine t_block ?_ | refine n_block ?_ | refine e_then ?_ | refine x_then ?_ | refine x_block ?_ | refine t_draw ?_)
                | refine r_val rfl rfl True.intro ?_ | refine r_gskip rfl rfl rfl ?_ | refine r_gskip2 rfl rfl rfl ?_ | refine r_gval rfl rfl rfl rfl True.intro ?_
                | refine t_true rfl ?_ | refine t_false rfl ?_
                | ((first | refine t_cond_d rfl ?_ ?_ | refine t_cond_i rfl ?_ ?_ | refine t_cond_j rfl ?_ ?_ | refine t_cond_s rfl ?_ ?_ | refine t_cond_n rfl ?_ ?_ | refine t_cond rfl ?_ ?_ | refine c_split_d rfl rfl ?_ ?_ | refine c_split_i rfl rfl ?_ ?_ | refine c_split_j rfl rfl ?_ ?_ | refine c_split_s rfl rfl ?_ ?_ | refine c_split_n rfl rfl ?_ ?_) <;> intro <;> try (first | (rename_i hz; exact Bool.noConfusion (show true = false from hz)) | (rename_i hz; exact Bool.noConfusion (show false = true from hz)) | (exfalso; omega)))
                | ((first | refine r_val rfl rfl ?_ ?_ | refine r_gval rfl rfl rfl rfl ?_ ?_ | refine r_obj rfl rfl ?_ ?_ | refine r_sto rfl ?_ ?_ | refine r_gobj rfl rfl rfl rfl ?_ ?_); focus (first | omega | exact Nat.le_of_ble_eq_true rfl | (simp only [wrap_u8, IntKind.wrap_i64, IntKind.wrap_i32, wrap_u32', wrap_u64', InI]; (repeat' refine And.intro ?_ ?_) <;> omega) | ((repeat' refine And.intro ?_ ?_) <;> first | omega | rfl | exact Nat.le_refl _ | exact Nat.le_of_ble_eq_true rfl | exact bytesF_one _) | (simp_all; done) | (simp_all; omega)))
                | refine e_hit rfl ?_ | refine e_miss rfl ?_
                | with_reducible refine ⟨by kernel_rfl, ?_⟩ | ((with_reducible refine c_grd ?_); (fail_if_success (refine c_lit true rfl rfl rfl ?_)); (fail_if_success (refine c_lit false rfl rfl rfl ?_)); refine c_split rfl rfl (fun _ => ?_) (fun _ => ?_)))
              all_goals exact ⟨(5, n + 1 * (at' (c :: r) ((4 : Nat) : Int) - 48)), ⟨by omega, by omega, by omega, by omega, ⟨hst.symm⟩⟩, by dsimp only; omega, ⟨rfl, congrArg (D.i .i64) (by simp only [wrap_u8, IntKind.wrap_i64]; omega), rfl, congrArg (D.i .i64) (by omega), trivial⟩, trivial, rfl, fun q hq => by rw [hX] at hq; simp at hq⟩
            · rw [if_neg hd] at hst
              rw [qual_none hst]
              repeat' (first
                | with_reducible (first | refine t_seq ?_ | refine t_region ?_ | refine c_nil ?_ | refine n_then ?_ | refine t_ret ?_ | refine t_skip ?_ | refine t_exit ?_ | refine t_block ?_ | refine n_block ?_ | refine e_then ?_ | refine x_then ?_ | refine x_block ?_ | refine t_draw ?_)
                | refine r_val rfl rfl True.intro ?_ | refine r_gskip rfl rfl rfl ?_ | refine r_gskip2 rfl rfl rfl ?_ | refine r_gval rfl rfl rfl rfl True.intro ?_
                | refine t_true rfl ?_ | refine t_false rfl ?_
                | ((first | refine t_cond_d rfl ?_ ?_ | refine t_cond_i rfl ?_ ?_ | refine t_cond_j rfl ?_ ?_ | refine t_cond_s rfl ?_ ?_ | refine t_cond_n rfl ?_ ?_ | refine t_cond rfl ?_ ?_ | refine c_split_d rfl rfl ?_ ?_ | refine c_split_i rfl rfl ?_ ?_ | refine c_split_j rfl rfl ?_ ?_ | refine c_split_s rfl rfl ?_ ?_ | refine c_split_n rfl rfl ?_ ?_) <;> intro <;> try (first | (rename_i hz; exact Bool.noConfusion (show true = false from hz)) | (rename_i hz; exact Bool.noConfusion (show false = true from hz)) | (exfalso; omega)))
                | ((first | refine r_val rfl rfl ?_ ?_ | refine r_gval rfl rfl rfl rfl ?_ ?_ | refine r_obj rfl rfl ?_ ?_ | refine r_sto rfl ?_ ?_ | refine r_gobj rfl rfl rfl rfl ?_ ?_); focus (first | omega | exact Nat.le_of_ble_eq_true rfl | (simp only [wrap_u8, IntKind.wrap_i64, IntKind.wrap_i32, wrap_u32', wrap_u64', InI]; (repeat' refine And.intro ?_ ?_) <;> omega) | ((repeat' refine And.intro ?_ ?_) <;> first | omega | rfl | exact Nat.le_refl _ | exact Nat.le_of_ble_eq_true rfl | exact bytesF_one _) | (simp_all; done) | (simp_all; omega)))
                | refine e_hit rfl ?_ | refine e_miss rfl ?_
                | with_reducible refine ⟨by kernel_rfl, ?_⟩ | refine x_end rfl ?_ | refine n_end rfl ?_ | ((with_reducible refine c_grd ?_); (fail_if_success (refine c_lit true rfl rfl rfl ?_)); (fail_if_success (refine c_lit false rfl rfl rfl ?_)); refine c_split rfl rfl (fun _ => ?_) (fun _ => ?_)))
              all_goals rfl
        · rw [goQ_end (by omega)] at h5
          have hq := qual_some hb h5.symm
          by_cases h48 : at' (c :: r) 0 = 48
          · rw [if_pos h48] at hq
            rw [hq]
            repeat' (first
              | with_reducible (first | refine t_seq ?_ | refine t_region ?_ | refine c_nil ?_ | refine n_then ?_ | refine t_ret ?_ | refine t_skip ?_ | refine t_exit ?_ | refine t_block ?_ | refine n_block ?_ | refine e_then ?_ | refine x_then ?_ | refine x_block ?_ | refine t_draw ?_)
              | refine r_val rfl rfl True.intro ?_ | refine r_gskip rfl rfl rfl ?_ | refine r_gskip2 rfl rfl rfl ?_ | refine r_gval rfl rfl rfl rfl True.intro ?_
              | refine t_true rfl ?_ | refine t_false rfl ?_
              | ((first | refine t_cond_d rfl ?_ ?_ | refine t_cond_i rfl ?_ ?_ | refine t_cond_j rfl ?_ ?_ | refine t_cond_s rfl ?_ ?_ | refine t_cond_n rfl ?_ ?_ | refine t_cond rfl ?_ ?_ | refine c_split_d rfl rfl ?_ ?_ | refine c_split_i rfl rfl ?_ ?_ | refine c_split_j rfl rfl ?_ ?_ | refine c_split_s rfl rfl ?_ ?_ | refine c_split_n rfl rfl ?_ ?_) <;> intro <;> try (first | (rename_i hz; exact Bool.noConfusion (show true = false from hz)) | (rename_i hz; exact Bool.noConfusion (show false = true from hz)) | (exfalso; omega)))
              | ((first | refine r_val rfl rfl ?_ ?_ | refine r_gval rfl rfl rfl rfl ?_ ?_ | refine r_obj rfl rfl ?_ ?_ | refine r_sto rfl ?_ ?_ | refine r_gobj rfl rfl rfl rfl ?_ ?_); focus (first | omega | exact Nat.le_of_ble_eq_true rfl | (simp only [wrap_u8, IntKind.wrap_i64, IntKind.wrap_i32, wrap_u32', wrap_u64', InI]; (repeat' refine And.intro ?_ ?_) <;> omega) | ((repeat' refine And.intro ?_ ?_) <;> first | omega | rfl | exact Nat.le_refl _ | exact Nat.le_of_ble_eq_true rfl | exact bytesF_one _) | (simp_all; done) | (simp_all; omega)))
              | refine e_hit rfl ?_ | refine e_miss rfl ?_
              | with_reducible refine ⟨by kernel_rfl, ?_⟩ | refine x_end rfl ?_ | refine n_end rfl ?_ | ((with_reducible refine c_grd ?_); (fail_if_success (refine c_lit true rfl rfl rfl ?_)); (fail_if_success (refine c_lit false rfl rfl rfl ?_)); refine c_split rfl rfl (fun _ => ?_) (fun _ => ?_)))
            all_goals rfl
          · rw [if_neg h48] at hq
            by_cases hn0 : 0 < n
            · rw [if_pos hn0] at hq
              rw [hq]
              repeat' (first
                | with_reducible (first | refine t_seq ?_ | refine t_region ?_ | refine c_nil ?_ | refine n_then ?_ | refine t_ret ?_ | refine t_skip ?_ | refine t_exit ?_ | refine t_block ?_ | refine n_block ?_ | refine e_then ?_ | refine x_then ?_ | refine x_block ?_ | refine t_draw ?_)
                | refine r_val rfl rfl True.intro ?_ | refine r_gskip rfl rfl rfl ?_ | refine r_gskip2 rfl rfl rfl ?_ | refine r_gval rfl rfl rfl rfl True.intro ?_
                | refine t_true rfl ?_ | refine t_false rfl ?_
                | ((first | refine t_cond_d rfl ?_ ?_ | refine t_cond_i rfl ?_ ?_ | refine t_cond_j rfl ?_ ?_ | refine t_cond_s rfl ?_ ?_ | refine t_cond_n rfl ?_ ?_ | refine t_cond rfl ?_ ?_ | refine c_split_d rfl rfl ?_ ?_ | refine c_split_i rfl rfl ?_ ?_ | refine c_split_j rfl rfl ?_ ?_ | refine c_split_s rfl rfl ?_ ?_ | refine c_split_n rfl rfl ?_ ?_) <;> intro <;> try (first | (rename_i hz; exact Bool.noConfusion (show true = false from hz)) | (rename_i hz; exact Bool.noConfusion (show false = true from hz)) | (exfalso; omega)))
                | ((first | refine r_val rfl rfl ?_ ?_ | refine r_gval rfl rfl rfl rfl ?_ ?_ | refine r_obj rfl rfl ?_ ?_ | refine r_sto rfl ?_ ?_ | refine r_gobj rfl rfl rfl rfl ?_ ?_); focus (first | omega | exact Nat.le_of_ble_eq_true rfl | (simp only [wrap_u8, IntKind.wrap_i64, IntKind.wrap_i32, wrap_u32', wrap_u64', InI]; (repeat' refine And.intro ?_ ?_) <;> omega) | ((repeat' refine And.intro ?_ ?_) <;> first | omega | rfl | exact Nat.le_refl _ | exact Nat.le_of_ble_eq_true rfl | exact bytesF_one _) | (simp_all; done) | (simp_all; omega)))
                | refine e_hit rfl ?_ | refine e_miss rfl ?_
                | with_reducible refine ⟨by kernel_rfl, ?_⟩ | refine x_end rfl ?_ | refine n_end rfl ?_ | ((with_reducible refine c_grd ?_); (fail_if_success (refine c_lit true rfl rfl rfl ?_)); (fail_if_success (refine c_lit false rfl rfl rfl ?_)); refine c_split rfl rfl (fun _ => ?_) (fun _ => ?_)))
              all_goals rfl
            · rw [if_neg hn0] at hq
              rw [hq]
              repeat' (first
                | with_reducible (first | refine t_seq ?_ | refine t_region ?_ | refine c_nil ?_ | refine n_then ?_ | refine t_ret ?_ | refine t_skip ?_ | refine t_exit ?_ | refine t_block ?_ | refine n_block ?_ | refine e_then ?_ | refine x_then ?_ | refine x_block ?_ | refine t_draw ?_)
                | refine r_val rfl rfl True.intro ?_ | refine r_gskip rfl rfl rfl ?_ | refine r_gskip2 rfl rfl rfl ?_ | refine r_gval rfl rfl rfl rfl True.intro ?_
                | refine t_true rfl ?_ | refine t_false rfl ?_
                | ((first | refine t_cond_d rfl ?_ ?_ | refine t_cond_i rfl ?_ ?_ | refine t_cond_j rfl ?_ ?_ | refine t_cond_s rfl ?_ ?_ | refine t_cond_n rfl ?_ ?_ | refine t_cond rfl ?_ ?_ | refine c_split_d rfl rfl ?_ ?_ | refine c_split_i rfl rfl ?_ ?_ | refine c_split_j rfl rfl ?_ ?_ | refine c_split_s rfl rfl ?_ ?_ | refine c_split_n rfl rfl ?_ ?_) <;> intro <;> try (first | (rename_i hz; exact Bool.noConfusion (show true = false from hz)) | (rename_i hz; exact Bool.noConfusion (show false = true from hz)) | (exfalso; omega)))
                | ((first | refine r_val rfl rfl ?_ ?_ | refine r_gval rfl rfl rfl rfl ?_ ?_ | refine r_obj rfl rfl ?_ ?_ | refine r_sto rfl ?_ ?_ | refine r_gobj rfl rfl rfl rfl ?_ ?_); focus (first | omega | exact Nat.le_of_ble_eq_true rfl | (simp only [wrap_u8, IntKind.wrap_i64, IntKind.wrap_i32, wrap_u32', wrap_u64', InI]; (repeat' refine And.intro ?_ ?_) <;> omega) | ((repeat' refine And.intro ?_ ?_) <;> first | omega | rfl | exact Nat.le_refl _ | exact Nat.le_of_ble_eq_true rfl | exact bytesF_one _) | (simp_all; done) | (simp_all; omega)))
                | refine e_hit rfl ?_ | refine e_miss rfl ?_
                | with_reducible refine ⟨by kernel_rfl, ?_⟩ | refine x_end rfl ?_ | refine n_end rfl ?_ | ((with_reducible refine c_grd ?_); (fail_if_success (refine c_lit true rfl rfl rfl ?_)); (fail_if_success (refine c_lit false rfl rfl rfl ?_)); refine c_split rfl rfl (fun _ => ?_) (fun _ => ?_)))
              all_goals rfl

theorem qual_ref {s : List UInt8} {m : Int} (hb : ¬ (s.length = 0 ∨ (¬ at' s 0 = 48 ∧ ¬ at' s 0 = 49) ∨ 5 < s.length ∨ (1 < s.length ∧ ¬ at' s 1 = 46))) (h : goQ 100 (1000 * (at' s 0 - 48)) (s.drop 2) = some m) :
    qualD s = if 1000 < m then .tu [.i .i64 0, .b false] else .tu [.i .i64 m, .b true] := by
  have e := goQ_add (s.drop 2) 100 0 (1000 * (at' s 0 - 48))
  rw [Int.zero_add, h] at e
  cases hg : goQ 100 0 (s.drop 2) with
  | none => rw [hg] at e; cases e
  | some m0 =>
    rw [hg] at e
    have e : m = m0 + 1000 * (at' s 0 - 48) := Option.some.inj e
    have hl : (s.drop 2).length ≤ 3 := by rw [List.length_drop]; omega
    obtain ⟨b1, b2⟩ := goQ_le hl hg
    rw [qual_some hb hg]
    by_cases h48 : at' s 0 = 48
    · rw [if_pos h48, if_neg (by omega), show m = m0 by omega]
    · rw [if_neg h48]
      by_cases h0 : 0 < m0
      · rw [if_pos h0, if_pos (by omega)]
      · rw [if_neg h0, if_neg (by omega), show m = 1000 by omega]

theorem qual_refn {s : List UInt8} {k : Int} (h : goQ 100 k (s.drop 2) = none) : qualD s = .tu [.i .i64 0, .b false] := by
  have e := goQ_add (s.drop 2) 100 0 k
  rw [Int.zero_add, h] at e
  refine qual_none ?_
  cases hg : goQ 100 0 (s.drop 2) with
  | none => rfl
  | some m0 => rw [hg] at e; cases e

set_option maxRecDepth 100000 in
set_option maxHeartbeats 1000000 in
theorem rquality_ctr (s : List UInt8) (hs : s.length ≤ 1000000) : Ctr Tryd.prog 16 [.s s] (qualD s) := by
  refine r_fun Tryd.func16 rfl Tryd.ntmps16 Tryd.results16 rfl rfl fun X hL hX => ?_
  have r0 := at_range s 0
  by_cases hb : s.length = 0 ∨ (¬ at' s 0 = 48 ∧ ¬ at' s 0 = 49) ∨ 5 < s.length ∨ (1 < s.length ∧ ¬ at' s 1 = 46)
  · rw [qual_bad hb]
    by_cases hb0 : s.length = 0 ∨ (¬ at' s 0 = 48 ∧ ¬ at' s 0 = 49) ∨ 5 < s.length
    · skip
      repeat' (first
        | with_reducible (first | refine t_seq ?_ | refine t_region ?_ | refine c_nil ?_ | refine n_then ?_ | refine t_ret ?_ | refine t_skip ?_ | refine t_exit ?_ | refine t_block ?_ | refine n_block ?_ | refine e_then ?_ | refine x_then ?_ | refine x_block ?_ | refine t_draw ?_)
        | refine r_val rfl rfl True.intro ?_ | refine r_gskip rfl rfl rfl ?_ | refine r_gskip2 rfl rfl rfl ?_ | refine r_gval rfl rfl rfl rfl True.intro ?_
        | refine t_true rfl ?_ | refine t_false rfl ?_
        | ((first | refine t_cond_d rfl ?_ ?_ | refine t_cond_i rfl ?_ ?_ | refine t_cond_j rfl ?_ ?_ | refine t_cond_s rfl ?_ ?_ | refine t_cond_n rfl ?_ ?_ | refine t_cond rfl ?_ ?_ | refine c_split_d rfl rfl ?_ ?_ | refine c_split_i rfl rfl ?_ ?_ | refine c_split_j rfl rfl ?_ ?_ | refine c_split_s rfl rfl ?_ ?_ | refine c_split_n rfl rfl ?_ ?_) <;> intro <;> try (first | (rename_i hz; exact Bool.noConfusion (show true = false from hz)) | (rename_i hz; exact Bool.noConfusion (show false = true from hz)) | (exfalso; omega)))
        | ((first | refine r_val rfl rfl ?_ ?_ | refine r_gval rfl rfl rfl rfl ?_ ?_ | refine r_obj rfl rfl ?_ ?_ | refine r_sto rfl ?_ ?_ | refine r_gobj rfl rfl rfl rfl ?_ ?_); focus (first | omega | exact Nat.le_of_ble_eq_true rfl | (simp only [wrap_u8, IntKind.wrap_i64, IntKind.wrap_i32, wrap_u32', wrap_u64', InI]; (repeat' refine And.intro ?_ ?_) <;> omega) | ((repeat' refine And.intro ?_ ?_) <;> first | omega | rfl | exact Nat.le_refl _ | exact Nat.le_of_ble_eq_true rfl | exact bytesF_one _) | (simp_all; done) | (simp_all; omega)))
        | refine e_hit rfl ?_ | refine e_miss rfl ?_
        | with_reducible refine ⟨by kernel_rfl, ?_⟩ | refine x_end rfl ?_ | refine n_end rfl ?_ | ((with_reducible refine c_grd ?_); (fail_if_success (refine c_lit true rfl rfl rfl ?_)); (fail_if_success (refine c_lit false rfl rfl rfl ?_)); refine c_split rfl rfl (fun _ => ?_) (fun _ => ?_)))
      all_goals first | rfl | (exfalso; omega)
    · have hb1 : 1 < s.length ∧ ¬ at' s ((1 : Nat) : Int) = 46 := by
        rcases hb with h | h | h | h
        · exact absurd (.inl h) hb0
        · exact absurd (.inr (.inl h)) hb0
        · exact absurd (.inr (.inr h)) hb0
        · exact h
      repeat' (first
        | with_reducible (first | refine t_seq ?_ | refine t_region ?_ | refine c_nil ?_ | refine n_then ?_ | refine t_ret ?_ | refine t_skip ?_ | refine t_exit ?_ | refine t_block ?_ | refine n_block ?_ | refine e_then ?_ | refine x_then ?_ | refine x_block ?_ | refine t_draw ?_)
        | refine r_val rfl rfl True.intro ?_ | refine r_gskip rfl rfl rfl ?_ | refine r_gskip2 rfl rfl rfl ?_ | refine r_gval rfl rfl rfl rfl True.intro ?_
        | refine t_true rfl ?_ | refine t_false rfl ?_
        | ((first | refine t_cond_d rfl ?_ ?_ | refine t_cond_i rfl ?_ ?_ | refine t_cond_j rfl ?_ ?_ | refine t_cond_s rfl ?_ ?_ | refine t_cond_n rfl ?_ ?_ | refine t_cond rfl ?_ ?_ | refine c_split_d rfl rfl ?_ ?_ | refine c_split_i rfl rfl ?_ ?_ | refine c_split_j rfl rfl ?_ ?_ | refine c_split_s rfl rfl ?_ ?_ | refine c_split_n rfl rfl ?_ ?_) <;> intro <;> try (first | (rename_i hz; exact Bool.noConfusion (show true = false from hz)) | (rename_i hz; exact Bool.noConfusion (show false = true from hz)) | (exfalso; omega)))
        | ((first | refine r_val rfl rfl ?_ ?_ | refine r_gval rfl rfl rfl rfl ?_ ?_ | refine r_obj rfl rfl ?_ ?_ | refine r_sto rfl ?_ ?_ | refine r_gobj rfl rfl rfl rfl ?_ ?_); focus (first | omega | exact Nat.le_of_ble_eq_true rfl | (simp only [wrap_u8, IntKind.wrap_i64, IntKind.wrap_i32, wrap_u32', wrap_u64', InI]; (repeat' refine And.intro ?_ ?_) <;> omega) | ((repeat' refine And.intro ?_ ?_) <;> first | omega | rfl | exact Nat.le_refl _ | exact Nat.le_of_ble_eq_true rfl | exact bytesF_one _) | (simp_all; done) | (simp_all; omega)))
        | refine e_hit rfl ?_ | refine e_miss rfl ?_
        | with_reducible refine ⟨by kernel_rfl, ?_⟩ | refine x_end rfl ?_ | refine n_end rfl ?_ | ((with_reducible refine c_grd ?_); (fail_if_success (refine c_lit true rfl rfl rfl ?_)); (fail_if_success (refine c_lit false rfl rfl rfl ?_)); refine c_split rfl rfl (fun _ => ?_) (fun _ => ?_)))
      all_goals refine T.loop hL (fun _ : Unit => [(0, .s s), (6, .i .i64 ((1 : Nat) : Int))]) (fun _ => []) (fun _ => True) (fun _ => 0) () trivial ⟨⟨rfl, rfl, trivial⟩, trivial, rfl, fun q hq => by rw [hX] at hq; simp at hq⟩ ?_
      all_goals
        intro _ _
        repeat' (first
          | with_reducible (first | refine t_seq ?_ | refine t_region ?_ | refine c_nil ?_ | refine n_then ?_ | refine t_ret ?_ | refine t_skip ?_ | refine t_exit ?_ | refine t_block ?_ | refine n_block ?_ | refine e_then ?_ | refine x_then ?_ | refine x_block ?_ | refine t_draw ?_)
          | refine r_val rfl rfl True.intro ?_ | refine r_gskip rfl rfl rfl ?_ | refine r_gskip2 rfl rfl rfl ?_ | refine r_gval rfl rfl rfl rfl True.intro ?_
          | refine t_true rfl ?_ | refine t_false rfl ?_
          | ((first | refine t_cond_d rfl ?_ ?_ | refine t_cond_i rfl ?_ ?_ | refine t_cond_j rfl ?_ ?_ | refine t_cond_s rfl ?_ ?_ | refine t_cond_n rfl ?_ ?_ | refine t_cond rfl ?_ ?_ | refine c_split_d rfl rfl ?_ ?_ | refine c_split_i rfl rfl ?_ ?_ | refine c_split_j rfl rfl ?_ ?_ | refine c_split_s rfl rfl ?_ ?_ | refine c_split_n rfl rfl ?_ ?_) <;> intro <;> try (first | (rename_i hz; exact Bool.noConfusion (show true = false from hz)) | (rename_i hz; exact Bool.noConfusion (show false = true from hz)) | (exfalso; omega)))
          | ((first | refine r_val rfl rfl ?_ ?_ | refine r_gval rfl rfl rfl rfl ?_ ?_ | refine r_obj rfl rfl ?_ ?_ | refine r_sto rfl ?_ ?_ | refine r_gobj rfl rfl rfl rfl ?_ ?_); focus (first | omega | exact Nat.le_of_ble_eq_true rfl | (simp only [wrap_u8, IntKind.wrap_i64, IntKind.wrap_i32, wrap_u32', wrap_u64', InI]; (repeat' refine And.intro ?_ ?_) <;> omega) | ((repeat' refine And.intro ?_ ?_) <;> first | omega | rfl | exact Nat.le_refl _ | exact Nat.le_of_ble_eq_true rfl | exact bytesF_one _) | (simp_all; done) | (simp_all; omega)))
          | refine e_hit rfl ?_ | refine e_miss rfl ?_
          | with_reducible refine ⟨by kernel_rfl, ?_⟩ | refine x_end rfl ?_ | refine n_end rfl ?_ | ((with_reducible refine c_grd ?_); (fail_if_success (refine c_lit true rfl rfl rfl ?_)); (fail_if_success (refine c_lit false rfl rfl rfl ?_)); refine c_split rfl rfl (fun _ => ?_) (fun _ => ?_)))
        all_goals first | rfl | (exfalso; omega)
  · skip
    repeat' (first
      | with_reducible (first | refine t_seq ?_ | refine t_region ?_ | refine c_nil ?_ | refine n_then ?_ | refine t_ret ?_ | refine t_skip ?_ | refine t_exit ?_ | refine t_block ?_ | refine n_block ?_ | refine e_then ?_ | refine x_then ?_ | refine x_block ?_ | refine t_draw ?_)
      | refine r_val rfl rfl True.intro ?_ | refine r_gskip rfl rfl rfl ?_ | refine r_gskip2 rfl rfl rfl ?_ | refine r_gval rfl rfl rfl rfl True.intro ?_
      | refine t_true rfl ?_ | refine t_false rfl ?_
      | ((first | refine t_cond_d rfl ?_ ?_ | refine t_cond_i rfl ?_ ?_ | refine t_cond_j rfl ?_ ?_ | refine t_cond_s rfl ?_ ?_ | refine t_cond_n rfl ?_ ?_ | refine t_cond rfl ?_ ?_ | refine c_split_d rfl rfl ?_ ?_ | refine c_split_i rfl rfl ?_ ?_ | refine c_split_j rfl rfl ?_ ?_ | refine c_split_s rfl rfl ?_ ?_ | refine c_split_n rfl rfl ?_ ?_) <;> intro <;> try (first | (rename_i hz; exact Bool.noConfusion (show true = false from hz)) | (rename_i hz; exact Bool.noConfusion (show false = true from hz)) | (exfalso; omega)))
      | ((first | refine r_val rfl rfl ?_ ?_ | refine r_gval rfl rfl rfl rfl ?_ ?_ | refine r_obj rfl rfl ?_ ?_ | refine r_sto rfl ?_ ?_ | refine r_gobj rfl rfl rfl rfl ?_ ?_); focus (first | omega | exact Nat.le_of_ble_eq_true rfl | (simp only [wrap_u8, IntKind.wrap_i64, IntKind.wrap_i32, wrap_u32', wrap_u64', InI]; (repeat' refine And.intro ?_ ?_) <;> omega) | ((repeat' refine And.intro ?_ ?_) <;> first | omega | rfl | exact Nat.le_refl _ | exact Nat.le_of_ble_eq_true rfl | exact bytesF_one _) | (simp_all; done) | (simp_all; omega)))
      | refine e_hit rfl ?_ | refine e_miss rfl ?_
      | with_reducible refine ⟨by kernel_rfl, ?_⟩ | refine x_end rfl ?_ | refine n_end rfl ?_ | ((with_reducible refine c_grd ?_); (fail_if_success (refine c_lit true rfl rfl rfl ?_)); (fail_if_success (refine c_lit false rfl rfl rfl ?_)); refine c_split rfl rfl (fun _ => ?_) (fun _ => ?_)))
    all_goals first | (exfalso; omega) | skip
    all_goals refine T.loop hL (fun x : Nat × Int => [(0, .s s), (4, .i .i64 x.2), (5, .gs 30 1 5 (chunk 1 [.i .i64 0, .i .i64 0, .i .i64 100, .i .i64 10, .i .i64 1])), (6, .i .i64 x.1)]) (fun _ => [(30, .row 3 1 5)]) (fun x => (x = (1, 1000 * (at' s 0 - 48))) ∨ (2 ≤ x.1 ∧ x.1 ≤ 6 ∧ 0 ≤ x.2 ∧ x.2 ≤ 1000000 * x.1 ∧ QInv s (1000 * (at' s 0 - 48)) x)) (fun x => 6 - x.1) (1, 1000 * (at' s 0 - 48)) (.inl rfl) ⟨⟨rfl, congrArg (D.i .i64) (by simp only [wrap_u8, IntKind.wrap_i64]; omega), rfl, rfl, trivial⟩, ⟨rfl, trivial⟩, rfl, fun q hq => by rw [hX] at hq; simp at hq⟩ ?_
    all_goals
      rintro ⟨i, n⟩ hI
      rcases hI with hI | ⟨h1, h2, h3, h4, ⟨h5⟩⟩
      · obtain ⟨rfl, rfl⟩ := Prod.mk.inj hI
        by_cases h1l : 1 < s.length
        · have h46 : at' s ((1 : Nat) : Int) = 46 := Classical.byContradiction fun h => hb (.inr (.inr (.inr ⟨h1l, h⟩)))
          dsimp only
          repeat' (first
            | with_reducible (first | refine t_seq ?_ | refine t_region ?_ | refine c_nil ?_ | refine n_then ?_ | refine t_ret ?_ | refine t_skip ?_ | refine t_exit ?_ | refine t_block ?_ | refine n_block ?_ | refine e_then ?_ | refine x_then ?_ | refine x_block ?_ | refine t_draw ?_)
            | refine r_val rfl rfl True.intro ?_ | refine r_gskip rfl rfl rfl ?_ | refine r_gskip2 rfl rfl rfl ?_ | refine r_gval rfl rfl rfl rfl True.intro ?_
            | refine t_true rfl ?_ | refine t_false rfl ?_
            | ((first | refine t_cond_d rfl ?_ ?_ | refine t_cond_i rfl ?_ ?_ | refine t_cond_j rfl ?_ ?_ | refine t_cond_s rfl ?_ ?_ | refine t_cond_n rfl ?_ ?_ | refine t_cond rfl ?_ ?_ | refine c_split_d rfl rfl ?_ ?_ | refine c_split_i rfl rfl ?_ ?_ | refine c_split_j rfl rfl ?_ ?_ | refine c_split_s rfl rfl ?_ ?_ | refine c_split_n rfl rfl ?_ ?_) <;> intro <;> try (first | (rename_i hz; exact Bool.noConfusion (show true = false from hz)) | (rename_i hz; exact Bool.noConfusion (show false = true from hz)) | (exfalso; omega)))
            | ((first | refine r_val rfl rfl ?_ ?_ | refine r_gval rfl rfl rfl rfl ?_ ?_ | refine r_obj rfl rfl ?_ ?_ | refine r_sto rfl ?_ ?_ | refine r_gobj rfl rfl rfl rfl ?_ ?_); focus (first | omega | exact Nat.le_of_ble_eq_true rfl | (simp only [wrap_u8, IntKind.wrap_i64, IntKind.wrap_i32, wrap_u32', wrap_u64', InI]; (repeat' refine And.intro ?_ ?_) <;> omega) | ((repeat' refine And.intro ?_ ?_) <;> first | omega | rfl | exact Nat.le_refl _ | exact Nat.le_of_ble_eq_true rfl | exact bytesF_one _) | (simp_all; done) | (simp_all; omega)))
            | refine e_hit rfl ?_ | refine e_miss rfl ?_
            | with_reducible refine ⟨by kernel_rfl, ?_⟩ | refine x_end rfl ?_ | refine n_end rfl ?_ | ((with_reducible refine c_grd ?_); (fail_if_success (refine c_lit true rfl rfl rfl ?_)); (fail_if_success (refine c_lit false rfl rfl rfl ?_)); refine c_split rfl rfl (fun _ => ?_) (fun _ => ?_)))
          all_goals first | (exfalso; omega) | exact ⟨(2, 1000 * (at' s 0 - 48)), .inr ⟨by omega, by omega, by dsimp only; omega, by dsimp only; omega, ⟨rfl⟩⟩, by dsimp only; omega, ⟨rfl, congrArg (D.i .i64) (by simp only [wrap_u8, IntKind.wrap_i64]; omega), rfl, congrArg (D.i .i64) (by omega), trivial⟩, ⟨rfl, trivial⟩, rfl, fun q hq => by rw [hX] at hq; simp at hq⟩
        · have hq := qual_ref hb (goQ_end (u := 100) (n := 1000 * (at' s 0 - 48)) (i := 2) (by omega))
          by_cases hn0 : 1000 < 1000 * (at' s 0 - 48)
          · rw [if_pos hn0] at hq
            rw [hq]
            repeat' (first
              | with_reducible (first | refine t_seq ?_ | refine t_region ?_ | refine c_nil ?_ | refine n_then ?_ | refine t_ret ?_ | refine t_skip ?_ | refine t_exit ?_ | refine t_block ?_ | refine n_block ?_ | refine e_then ?_ | refine x_then ?_ | refine x_block ?_ | refine t_draw ?_)
              | refine r_val rfl rfl True.intro ?_ | refine r_gskip rfl rfl rfl ?_ | refine r_gskip2 rfl rfl rfl ?_ | refine r_gval rfl rfl rfl rfl True.intro ?_
              | refine t_true rfl ?_ | refine t_false rfl ?_
              | ((first | refine t_cond_d rfl ?_ ?_ | refine t_cond_i rfl ?_ ?_ | refine t_cond_j rfl ?_ ?_ | refine t_cond_s rfl ?_ ?_ | refine t_cond_n rfl ?_ ?_ | refine t_cond rfl ?_ ?_ | refine c_split_d rfl rfl ?_ ?_ | refine c_split_i rfl rfl ?_ ?_ | refine c_split_j rfl rfl ?_ ?_ | refine c_split_s rfl rfl ?_ ?_ | refine c_split_n rfl rfl ?_ ?_) <;> intro <;> try (first | (rename_i hz; exact Bool.noConfusion (show true = false from hz)) | (rename_i hz; exact Bool.noConfusion (show false = true from hz)) | (exfalso; omega)))
              | ((first | refine r_val rfl rfl ?_ ?_ | refine r_gval rfl rfl rfl rfl ?_ ?_ | refine r_obj rfl rfl ?_ ?_ | refine r_sto rfl ?_ ?_ | refine r_gobj rfl rfl rfl rfl ?_ ?_); focus (first | omega | exact Nat.le_of_ble_eq_true rfl | (simp only [wrap_u8, IntKind.wrap_i64, IntKind.wrap_i32, wrap_u32', wrap_u64', InI]; (repeat' refine And.intro ?_ ?_) <;> omega) | ((repeat' refine And.intro ?_ ?_) <;> first | omega | rfl | exact Nat.le_refl _ | exact Nat.le_of_ble_eq_true rfl | exact bytesF_one _) | (simp_all; done) | (simp_all; omega)))
              | refine e_hit rfl ?_ | refine e_miss rfl ?_
              | with_reducible refine ⟨by kernel_rfl, ?_⟩ | refine x_end rfl ?_ | refine n_end rfl ?_ | ((with_reducible refine c_grd ?_); (fail_if_success (refine c_lit true rfl rfl rfl ?_)); (fail_if_success (refine c_lit false rfl rfl rfl ?_)); refine c_split rfl rfl (fun _ => ?_) (fun _ => ?_)))
            all_goals first | rfl | (exfalso; omega)
          · rw [if_neg hn0] at hq
            rw [hq]
            repeat' (first
              | with_reducible (first | refine t_seq ?_ | refine t_region ?_ | refine c_nil ?_ | refine n_then ?_ | refine t_ret ?_ | refine t_skip ?_ | refine t_exit ?_ | refine t_block ?_ | refine n_block ?_ | refine e_then ?_ | refine x_then ?_ | refine x_block ?_ | refine t_draw ?_)
              | refine r_val rfl rfl True.intro ?_ | refine r_gskip rfl rfl rfl ?_ | refine r_gskip2 rfl rfl rfl ?_ | refine r_gval rfl rfl rfl rfl True.intro ?_
              | refine t_true rfl ?_ | refine t_false rfl ?_
              | ((first | refine t_cond_d rfl ?_ ?_ | refine t_cond_i rfl ?_ ?_ | refine t_cond_j rfl ?_ ?_ | refine t_cond_s rfl ?_ ?_ | refine t_cond_n rfl ?_ ?_ | refine t_cond rfl ?_ ?_ | refine c_split_d rfl rfl ?_ ?_ | refine c_split_i rfl rfl ?_ ?_ | refine c_split_j rfl rfl ?_ ?_ | refine c_split_s rfl rfl ?_ ?_ | refine c_split_n rfl rfl ?_ ?_) <;> intro <;> try (first | (rename_i hz; exact Bool.noConfusion (show true = false from hz)) | (rename_i hz; exact Bool.noConfusion (show false = true from hz)) | (exfalso; omega)))
              | ((first | refine r_val rfl rfl ?_ ?_ | refine r_gval rfl rfl rfl rfl ?_ ?_ | refine r_obj rfl rfl ?_ ?_ | refine r_sto rfl ?_ ?_ | refine r_gobj rfl rfl rfl rfl ?_ ?_); focus (first | omega | exact Nat.le_of_ble_eq_true rfl | (simp only [wrap_u8, IntKind.wrap_i64, IntKind.wrap_i32, wrap_u32', wrap_u64', InI]; (repeat' refine And.intro ?_ ?_) <;> omega) | ((repeat' refine And.intro ?_ ?_) <;> first | omega | rfl | exact Nat.le_refl _ | exact Nat.le_of_ble_eq_true rfl | exact bytesF_one _) | (simp_all; done) | (simp_all; omega)))
              | refine e_hit rfl ?_ | refine e_miss rfl ?_
              | with_reducible refine ⟨by kernel_rfl, ?_⟩ | refine x_end rfl ?_ | refine n_end rfl ?_ | ((with_reducible refine c_grd ?_); (fail_if_success (refine c_lit true rfl rfl rfl ?_)); (fail_if_success (refine c_lit false rfl rfl rfl ?_)); refine c_split rfl rfl (fun _ => ?_) (fun _ => ?_)))
            all_goals first | rfl | (exfalso; omega)
      · dsimp only at h1 h2 h3 h4 h5 ⊢
        by_cases hi : i < s.length
        · obtain rfl | rfl | rfl : i = 2 ∨ i = 3 ∨ i = 4 := by omega
          · have hr := at_range s ((2 : Nat) : Int)
            have hst := goQ_at (u := uF 2) (n := n) hi
            rw [h5] at hst
            by_cases hd : 48 ≤ at' s ((2 : Nat) : Int) ∧ at' s ((2 : Nat) : Int) ≤ 57
            · rw [if_pos hd] at hst
              rw [show uF 2 / 10 = uF 3 from by decide, show uF 2 = 100 from rfl] at hst
              repeat' (first
                | with_reducible (first | refine t_seq ?_ | refine t_region ?_ | refine c_nil ?_ | refine n_then ?_ | refine t_ret ?_ | refine t_skip ?_ | refine t_exit ?_ | refine t_block ?_ | refine n_block ?_ | refine e_then ?_ | refine x_then ?_ | refine x_block ?_ | refine t_draw ?_)
                | refine r_val rfl rfl True.intro ?_ | refine r_gskip rfl rfl rfl ?_ | refine r_gskip2 rfl rfl rfl ?_ | refine r_gval rfl rfl rfl rfl True.intro ?_
                | refine t_true rfl ?_ | refine t_false rfl ?_
                | ((first | refine t_cond_d rfl ?_ ?_ | refine t_cond_i rfl ?_ ?_ | refine t_cond_j rfl ?_ ?_ | refine t_cond_s rfl ?_ ?_ | refine t_cond_n rfl ?_ ?_ | refine t_cond rfl ?_ ?_ | refine c_split_d rfl rfl ?_ ?_ | refine c_split_i rfl rfl ?_ ?_ | refine c_split_j rfl rfl ?_ ?_ | refine c_split_s rfl rfl ?_ ?_ | refine c_split_n rfl rfl ?_ ?_) <;> intro <;> try (first | (rename_i hz; exact Bool.noConfusion (show true = false from hz)) | (rename_i hz; exact Bool.noConfusion (show false = true from hz)) | (exfalso; omega)))
                | ((first | refine r_val rfl rfl ?_ ?_ | refine r_gval rfl rfl rfl rfl ?_ ?_ | refine r_obj rfl rfl ?_ ?_ | refine r_sto rfl ?_ ?_ | refine r_gobj rfl rfl rfl rfl ?_ ?_); focus (first | omega | exact Nat.le_of_ble_eq_true rfl | (simp only [wrap_u8, IntKind.wrap_i64, IntKind.wrap_i32, wrap_u32', wrap_u64', InI]; (repeat' refine And.intro ?_ ?_) <;> omega) | ((repeat' refine And.intro ?_ ?_) <;> first | omega | rfl | exact Nat.le_refl _ | exact Nat.le_of_ble_eq_true rfl | exact bytesF_one _) | (simp_all; done) | (simp_all; omega)))
                | refine e_hit rfl ?_ | refine e_miss rfl ?_
                | with_reducible refine ⟨by kernel_rfl, ?_⟩ | refine x_end rfl ?_ | refine n_end rfl ?_ | ((with_reducible refine c_grd ?_); (fail_if_success (refine c_lit true rfl rfl rfl ?_)); (fail_if_success (refine c_lit false rfl rfl rfl ?_)); refine c_split rfl rfl (fun _ => ?_) (fun _ => ?_)))
              all_goals first | (exfalso; omega) | exact ⟨(3, n + 100 * (at' s ((2 : Nat) : Int) - 48)), .inr ⟨by omega, by omega, by dsimp only; omega, by dsimp only; omega, ⟨hst.symm⟩⟩, by dsimp only; omega, ⟨rfl, congrArg (D.i .i64) (by simp only [wrap_u8, IntKind.wrap_i64]; omega), rfl, congrArg (D.i .i64) (by omega), trivial⟩, ⟨rfl, trivial⟩, rfl, fun q hq => by rw [hX] at hq; simp at hq⟩
            · rw [if_neg hd] at hst
              rw [qual_refn hst]
              repeat' (first
                | with_reducible (first | refine t_seq ?_ | refine t_region ?_ | refine c_nil ?_ | refine n_then ?_ | refine t_ret ?_ | refine t_skip ?_ | refine t_exit ?_ | refine t_block ?_ | refine n_block ?_ | refine e_then ?_ | refine x_then ?_ | refine x_block ?_ | refine t_draw ?_)
                | refine r_val rfl rfl True.intro ?_ | refine r_gskip rfl rfl rfl ?_ | refine r_gskip2 rfl rfl rfl ?_ | refine r_gval rfl rfl rfl rfl True.intro ?_
                | refine t_true rfl ?_ | refine t_false rfl ?_
                | ((first | refine t_cond_d rfl ?_ ?_ | refine t_cond_i rfl ?_ ?_ | refine t_cond_j rfl ?_ ?_ | refine t_cond_s rfl ?_ ?_ | refine t_cond_n rfl ?_ ?_ | refine t_cond rfl ?_ ?_ | refine c_split_d rfl rfl ?_ ?_ | refine c_split_i rfl rfl ?_ ?_ | refine c_split_j rfl rfl ?_ ?_ | refine c_split_s rfl rfl ?_ ?_ | refine c_split_n rfl rfl ?_ ?_) <;> intro <;> try (first | (rename_i hz; exact Bool.noConfusion (show true = false from hz)) | (rename_i hz; exact Bool.noConfusion (show false = true from hz)) | (exfalso; omega)))
                | ((first | refine r_val rfl rfl ?_ ?_ | refine r_gval rfl rfl rfl rfl ?_ ?_ | refine r_obj rfl rfl ?_ ?_ | refine r_sto rfl ?_ ?_ | refine r_gobj rfl rfl rfl rfl ?_ ?_); focus (first | omega | exact Nat.le_of_ble_eq_true rfl | (simp only [wrap_u8, IntKind.wrap_i64, IntKind.wrap_i32, wrap_u32', wrap_u64', InI]; (repeat' refine And.intro ?_ ?_) <;> omega) | ((repeat' refine And.intro ?_ ?_) <;> first | omega | rfl | exact Nat.le_refl _ | exact Nat.le_of_ble_eq_true rfl | exact bytesF_one _) | (simp_all; done) | (simp_all; omega)))
                | refine e_hit rfl ?_ | refine e_miss rfl ?_
                | with_reducible refine ⟨by kernel_rfl, ?_⟩ | refine x_end rfl ?_ | refine n_end rfl ?_ | ((with_reducible refine c_grd ?_); (fail_if_success (refine c_lit true rfl rfl rfl ?_)); (fail_if_success (refine c_lit false rfl rfl rfl ?_)); refine c_split rfl rfl (fun _ => ?_) (fun _ => ?_)))
              all_goals first | rfl | (exfalso; omega)
          · have hr := at_range s ((3 : Nat) : Int)
            have hst := goQ_at (u := uF 3) (n := n) hi
            rw [h5] at hst
            by_cases hd : 48 ≤ at' s ((3 : Nat) : Int) ∧ at' s ((3 : Nat) : Int) ≤ 57
            · rw [if_pos hd] at hst
              rw [show uF 3 / 10 = uF 4 from by decide, show uF 3 = 10 from rfl] at hst
              repeat' (first
                | with_reducible (first | refine t_seq ?_ | refine t_region ?_ | refine c_nil ?_ | refine n_then ?_ | refine t_ret ?_ | refine t_skip ?_ | refine t_exit ?_ | refine t_block ?_ | refine n_block ?_ | refine e_then ?_ | refine x_then ?_ | refine x_block ?_ | refine t_draw ?_)
                | refine r_val rfl rfl True.intro ?_ | refine r_gskip rfl rfl rfl ?_ | refine r_gskip2 rfl rfl rfl ?_ | refine r_gval rfl rfl rfl rfl True.intro ?_
                | refine t_true rfl ?_ | refine t_false rfl ?_
                | ((first | refine t_cond_d rfl ?_ ?_ | refine t_cond_i rfl ?_ ?_ | refine t_cond_j rfl ?_ ?_ | refine t_cond_s rfl ?_ ?_ | refine t_cond_n rfl ?_ ?_ | refine t_cond rfl ?_ ?_ | refine c_split_d rfl rfl ?_ ?_ | refine c_split_i rfl rfl ?_ ?_ | refine c_split_j rfl rfl ?_ ?_ | refine c_split_s rfl rfl ?_ ?_ | refine c_split_n rfl rfl ?_ ?_) <;> intro <;> try (first | (rename_i hz; exact Bool.noConfusion (show true = false from hz)) | (rename_i hz; exact Bool.noConfusion (show false = true from hz)) | (exfalso; omega)))
                | ((first | refine r_val rfl rfl ?_ ?_ | refine r_gval rfl rfl rfl rfl ?_ ?_ | refine r_obj rfl rfl ?_ ?_ | refine r_sto rfl ?_ ?_ | refine r_gobj rfl rfl rfl rfl ?_ ?_); focus (first | omega | exact Nat.le_of_ble_eq_true rfl | (simp only [wrap_u8, IntKind.wrap_i64, IntKind.wrap_i32, wrap_u32', wrap_u64', InI]; (repeat' refine And.intro ?_ ?_) <;> omega) | ((repeat' refine And.intro ?_ ?_) <;> first | omega | rfl | exact Nat.le_refl _ | exact Nat.le_of_ble_eq_true rfl | exact bytesF_one _) | (simp_all; done) | (simp_all; omega)))
                | refine e_hit rfl ?_ | refine e_miss rfl ?_
                | with_reducible refine ⟨by kernel_rfl, ?_⟩ | refine x_end rfl ?_ | refine n_end rfl ?_ | ((with_reducible refine c_grd ?_); (fail_if_success (refine c_lit true rfl rfl rfl ?_)); (fail_if_success (refine c_lit false rfl rfl rfl ?_)); refine c_split rfl rfl (fun _ => ?_) (fun _ => ?_)))
              all_goals first | (exfalso; omega) | exact ⟨(4, n + 10 * (at' s ((3 : Nat) : Int) - 48)), .inr ⟨by omega, by omega, by dsimp only; omega, by dsimp only; omega, ⟨hst.symm⟩⟩, by dsimp only; omega, ⟨rfl, congrArg (D.i .i64) (by simp only [wrap_u8, IntKind.wrap_i64]; omega), rfl, congrArg (D.i .i64) (by omega), trivial⟩, ⟨rfl, trivial⟩, rfl, fun q hq => by rw [hX] at hq; simp at hq⟩
            · rw [if_neg hd] at hst
              rw [qual_refn hst]
              repeat' (first
                | with_reducible (first | refine t_seq ?_ | refine t_region ?_ | refine c_nil ?_ | refine n_then ?_ | refine t_ret ?_ | refine t_skip ?_ | refine t_exit ?_ | refine t_block ?_ | refine n_block ?_ | refine e_then ?_ | refine x_then ?_ | refine x_block ?_ | refine t_draw ?_)
                | refine r_val rfl rfl True.intro ?_ | refine r_gskip rfl rfl rfl ?_ | refine r_gskip2 rfl rfl rfl ?_ | refine r_gval rfl rfl rfl rfl True.intro ?_
                | refine t_true rfl ?_ | refine t_false rfl ?_
                | ((first | refine t_cond_d rfl ?_ ?_ | refine t_cond_i rfl ?_ ?_ | refine t_cond_j rfl ?_ ?_ | refine t_cond_s rfl ?_ ?_ | refine t_cond_n rfl ?_ ?_ | refine t_cond rfl ?_ ?_ | refine c_split_d rfl rfl ?_ ?_ | refine c_split_i rfl rfl ?_ ?_ | refine c_split_j rfl rfl ?_ ?_ | refine c_split_s rfl rfl ?_ ?_ | refine c_split_n rfl rfl ?_ ?_) <;> intro <;> try (first | (rename_i hz; exact Bool.noConfusion (show true = false from hz)) | (rename_i hz; exact Bool.noConfusion (show false = true from hz)) | (exfalso; omega)))
                | ((first | refine r_val rfl rfl ?_ ?_ | refine r_gval rfl rfl rfl rfl ?_ ?_ | refine r_obj rfl rfl ?_ ?_ | refine r_sto rfl ?_ ?_ | refine r_gobj rfl rfl rfl rfl ?_ ?_); focus (first | omega | exact Nat.le_of_ble_eq_true rfl | (simp only [wrap_u8, IntKind.wrap_i64, IntKind.wrap_i32, wrap_u32', wrap_u64', InI]; (repeat' refine And.intro ?_ ?_) <;> omega) | ((repeat' refine And.intro ?_ ?_) <;> first | omega | rfl | exact Nat.le_refl _ | exact Nat.le_of_ble_eq_true rfl | exact bytesF_one _) | (simp_all; done) | (simp_all; omega)))
                | refine e_hit rfl ?_ | refine e_miss rfl ?_
                | with_reducible refine ⟨by kernel_rfl, ?_⟩ | refine x_end rfl ?_ | refine n_end rfl ?_ | ((with_reducible refine c_grd ?_); (fail_if_success (refine c_lit true rfl rfl rfl ?_)); (fail_if_success (refine c_lit false rfl rfl rfl ?_)); refine c_split rfl rfl (fun _ => ?_) (fun _ => ?_)))
              all_goals first | rfl | (exfalso; omega)
          · have hr := at_range s ((4 : Nat) : Int)
            have hst := goQ_at (u := uF 4) (n := n) hi
            rw [h5] at hst
            by_cases hd : 48 ≤ at' s ((4 : Nat) : Int) ∧ at' s ((4 : Nat) : Int) ≤ 57
            · rw [if_pos hd] at hst
              rw [show uF 4 / 10 = uF 5 from by decide, show uF 4 = 1 from rfl] at hst
              repeat' (first
                | with_reducible (first | refine t_seq ?_ | refine t_region ?_ | refine c_nil ?_ | refine n_then ?_ | refine t_ret ?_ | refine t_skip ?_ | refine t_exit ?_ | refine t_block ?_ | refine n_block ?_ | refine e_then ?_ | refine x_then ?_ | refine x_block ?_ | refine t_draw ?_)
                | refine r_val rfl rfl True.intro ?_ | refine r_gskip rfl rfl rfl ?_ | refine r_gskip2 rfl rfl rfl ?_ | refine r_gval rfl rfl rfl rfl True.intro ?_
                | refine t_true rfl ?_ | refine t_false rfl ?_
                | ((first | refine t_cond_d rfl ?_ ?_ | refine t_cond_i rfl ?_ ?_ | refine t_cond_j rfl ?_ ?_ | refine t_cond_s rfl ?_ ?_ | refine t_cond_n rfl ?_ ?_ | refine t_cond rfl ?_ ?_ | refine c_split_d rfl rfl ?_ ?_ | refine c_split_i rfl rfl ?_ ?_ | refine c_split_j rfl rfl ?_ ?_ | refine c_split_s rfl rfl ?_ ?_ | refine c_split_n rfl rfl ?_ ?_) <;> intro <;> try (first | (rename_i hz; exact Bool.noConfusion (show true = false from hz)) | (rename_i hz; exact Bool.noConfusion (show false = true from hz)) | (exfalso; omega)))
                | ((first | refine r_val rfl rfl ?_ ?_ | refine r_gval rfl rfl rfl rfl ?_ ?_ | refine r_obj rfl rfl ?_ ?_ | refine r_sto rfl ?_ ?_ | refine r_gobj rfl rfl rfl rfl ?_ ?_); focus (first | omega | exact Nat.le_of_ble_eq_true rfl | (simp only [wrap_u8, IntKind.wrap_i64, IntKind.wrap_i32, wrap_u32', wrap_u64', InI]; (repeat' refine And.intro ?_ ?_) <;> omega) | ((repeat' refine And.intro ?_ ?_) <;> first | omega | rfl | exact Nat.le_refl _ | exact Nat.le_of_ble_eq_true rfl | exact bytesF_one _) | (simp_all; done) | (simp_all; omega)))
                | refine e_hit rfl ?_ | refine e_miss rfl ?_
                | with_reducible refine ⟨by kernel_rfl, ?_⟩ | refine x_end rfl ?_ | refine n_end rfl ?_ | ((with_reducible refine c_grd ?_); (fail_if_success (refine c_lit true rfl rfl rfl ?_)); (fail_if_success (refine c_lit false rfl rfl rfl ?_)); refine c_split rfl rfl (fun _ => ?_) (fun _ => ?_)))
              all_goals first | (exfalso; omega) | exact ⟨(5, n + 1 * (at' s ((4 : Nat) : Int) - 48)), .inr ⟨by omega, by omega, by dsimp only; omega, by dsimp only; omega, ⟨hst.symm⟩⟩, by dsimp only; omega, ⟨rfl, congrArg (D.i .i64) (by simp only [wrap_u8, IntKind.wrap_i64]; omega), rfl, congrArg (D.i .i64) (by omega), trivial⟩, ⟨rfl, trivial⟩, rfl, fun q hq => by rw [hX] at hq; simp at hq⟩
            · rw [if_neg hd] at hst
              rw [qual_refn hst]
              repeat' (first
                | with_reducible (first | refine t_seq ?_ | refine t_region ?_ | refine c_nil ?_ | refine n_then ?_ | refine t_ret ?_ | refine t_skip ?_ | refine t_exit ?_ | refine t_block ?_ | refine n_block ?_ | refine e_then ?_ | refine x_then ?_ | refine x_block ?_ | refine t_draw ?_)
                | refine r_val rfl rfl True.intro ?_ | refine r_gskip rfl rfl rfl ?_ | refine r_gskip2 rfl rfl rfl ?_ | refine r_gval rfl rfl rfl rfl True.intro ?_
                | refine t_true rfl ?_ | refine t_false rfl ?_
                | ((first | refine t_cond_d rfl ?_ ?_ | refine t_cond_i rfl ?_ ?_ | refine t_cond_j rfl ?_ ?_ | refine t_cond_s rfl ?_ ?_ | refine t_cond_n rfl ?_ ?_ | refine t_cond rfl ?_ ?_ | refine c_split_d rfl rfl ?_ ?_ | refine c_split_i rfl rfl ?_ ?_ | refine c_split_j rfl rfl ?_ ?_ | refine c_split_s rfl rfl ?_ ?_ | refine c_split_n rfl rfl ?_ ?_) <;> intro <;> try (first | (rename_i hz; exact Bool.noConfusion (show true = false from hz)) | (rename_i hz; exact Bool.noConfusion (show false = true from hz)) | (exfalso; omega)))
                | ((first | refine r_val rfl rfl ?_ ?_ | refine r_gval rfl rfl rfl rfl ?_ ?_ | refine r_obj rfl rfl ?_ ?_ | refine r_sto rfl ?_ ?_ | refine r_gobj rfl rfl rfl rfl ?_ ?_); focus (first | omega | exact Nat.le_of_ble_eq_true rfl | (simp only [wrap_u8, IntKind.wrap_i64, IntKind.wrap_i32, wrap_u32', wrap_u64', InI]; (repeat' refine And.intro ?_ ?_) <;> omega) | ((repeat' refine And.intro ?_ ?_) <;> first | omega | rfl | exact Nat.le_refl _ | exact Nat.le_of_ble_eq_true rfl | exact bytesF_one _) | (simp_all; done) | (simp_all; omega)))
                | refine e_hit rfl ?_ | refine e_miss rfl ?_
                | with_reducible refine ⟨by kernel_rfl, ?_⟩ | refine x_end rfl ?_ | refine n_end rfl ?_ | ((with_reducible refine c_grd ?_); (fail_if_success (refine c_lit true rfl rfl rfl ?_)); (fail_if_success (refine c_lit false rfl rfl rfl ?_)); refine c_split rfl rfl (fun _ => ?_) (fun _ => ?_)))
              all_goals first | rfl | (exfalso; omega)
        · rw [goQ_end (by omega)] at h5
          have hq := qual_ref hb h5.symm
          by_cases hn0 : 1000 < n
          · rw [if_pos hn0] at hq
            rw [hq]
            repeat' (first
              | with_reducible (first | refine t_seq ?_ | refine t_region ?_ | refine c_nil ?_ | refine n_then ?_ | refine t_ret ?_ | refine t_skip ?_ | refine t_exit ?_ | refine t_block ?_ | refine n_block ?_ | refine e_then ?_ | refine x_then ?_ | refine x_block ?_ | refine t_draw ?_)
              | refine r_val rfl rfl True.intro ?_ | refine r_gskip rfl rfl rfl ?_ | refine r_gskip2 rfl rfl rfl ?_ | refine r_gval rfl rfl rfl rfl True.intro ?_
              | refine t_true rfl ?_ | refine t_false rfl ?_
              | ((first | refine t_cond_d rfl ?_ ?_ | refine t_cond_i rfl ?_ ?_ | refine t_cond_j rfl ?_ ?_ | refine t_cond_s rfl ?_ ?_ | refine t_cond_n rfl ?_ ?_ | refine t_cond rfl ?_ ?_ | refine c_split_d rfl rfl ?_ ?_ | refine c_split_i rfl rfl ?_ ?_ | refine c_split_j rfl rfl ?_ ?_ | refine c_split_s rfl rfl ?_ ?_ | refine c_split_n rfl rfl ?_ ?_) <;> intro <;> try (first | (rename_i hz; exact Bool.noConfusion (show true = false from hz)) | (rename_i hz; exact Bool.noConfusion (show false = true from hz)) | (exfalso; omega)))
              | ((first | refine r_val rfl rfl ?_ ?_ | refine r_gval rfl rfl rfl rfl ?_ ?_ | refine r_obj rfl rfl ?_ ?_ | refine r_sto rfl ?_ ?_ | refine r_gobj rfl rfl rfl rfl ?_ ?_); focus (first | omega | exact Nat.le_of_ble_eq_true rfl | (simp only [wrap_u8, IntKind.wrap_i64, IntKind.wrap_i32, wrap_u32', wrap_u64', InI]; (repeat' refine And.intro ?_ ?_) <;> omega) | ((repeat' refine And.intro ?_ ?_) <;> first | omega | rfl | exact Nat.le_refl _ | exact Nat.le_of_ble_eq_true rfl | exact bytesF_one _) | (simp_all; done) | (simp_all; omega)))
              | refine e_hit rfl ?_ | refine e_miss rfl ?_
              | with_reducible refine ⟨by kernel_rfl, ?_⟩ | refine x_end rfl ?_ | refine n_end rfl ?_ | ((with_reducible refine c_grd ?_); (fail_if_success (refine c_lit true rfl rfl rfl ?_)); (fail_if_success (refine c_lit false rfl rfl rfl ?_)); refine c_split rfl rfl (fun _ => ?_) (fun _ => ?_)))
            all_goals first | rfl | (exfalso; omega)
          · rw [if_neg hn0] at hq
            rw [hq]
            repeat' (first
              | with_reducible (first | refine t_seq ?_ | refine t_region ?_ | refine c_nil ?_ | refine n_then ?_ | refine t_ret ?_ | refine t_skip ?_ | refine t_exit ?_ | refine t_block ?_ | refine n_block ?_ | refine e_then ?_ | refine x_then ?_ | refine x_block ?_ | refine t_draw ?_)
              | refine r_val rfl rfl True.intro ?_ | refine r_gskip rfl rfl rfl ?_ | refine r_gskip2 rfl rfl rfl ?_ | refine r_gval rfl rfl rfl rfl True.intro ?_
              | refine t_true rfl ?_ | refine t_false rfl ?_
              | ((first | refine t_cond_d rfl ?_ ?_ | refine t_cond_i rfl ?_ ?_ | refine t_cond_j rfl ?_ ?_ | refine t_cond_s rfl ?_ ?_ | refine t_cond_n rfl ?_ ?_ | refine t_cond rfl ?_ ?_ | refine c_split_d rfl rfl ?_ ?_ | refine c_split_i rfl rfl ?_ ?_ | refine c_split_j rfl rfl ?_ ?_ | refine c_split_s rfl rfl ?_ ?_ | refine c_split_n rfl rfl ?_ ?_) <;> intro <;> try (first | (rename_i hz; exact Bool.noConfusion (show true = false from hz)) | (rename_i hz; exact Bool.noConfusion (show false = true from hz)) | (exfalso; omega)))
              | ((first | refine r_val rfl rfl ?_ ?_ | refine r_gval rfl rfl rfl rfl ?_ ?_ | refine r_obj rfl rfl ?_ ?_ | refine r_sto rfl ?_ ?_ | refine r_gobj rfl rfl rfl rfl ?_ ?_); focus (first | omega | exact Nat.le_of_ble_eq_true rfl | (simp only [wrap_u8, IntKind.wrap_i64, IntKind.wrap_i32, wrap_u32', wrap_u64', InI]; (repeat' refine And.intro ?_ ?_) <;> omega) | ((repeat' refine And.intro ?_ ?_) <;> first | omega | rfl | exact Nat.le_refl _ | exact Nat.le_of_ble_eq_true rfl | exact bytesF_one _) | (simp_all; done) | (simp_all; omega)))
              | refine e_hit rfl ?_ | refine e_miss rfl ?_
              | with_reducible refine ⟨by kernel_rfl, ?_⟩ | refine x_end rfl ?_ | refine n_end rfl ?_ | ((with_reducible refine c_grd ?_); (fail_if_success (refine c_lit true rfl rfl rfl ?_)); (fail_if_success (refine c_lit false rfl rfl rfl ?_)); refine c_split rfl rfl (fun _ => ?_) (fun _ => ?_)))
            all_goals first | rfl | (exfalso; omega)

end Go.Proofs.YtghdgjabpdfaoaaDoor.Flow

/- REQ: small letters, a part's name and quality. -/
namespace Go.Proofs.YtghdgjabpdfaoaaDoor.Flow
open Go

def lowI (n : Int) : Int := if 65 ≤ n ∧ n ≤ 90 then n + 32 else n
def smallL (l : List UInt8) : List UInt8 := l.map fun c => UInt8.ofNat (lowI c.toNat).toNat
def oI (l : List UInt8) (j : Nat) : Int := ((l.getD j 0).toNat : Int)
def fI (l : List UInt8) (i : Nat) : Nat → Int := fun j => if j < i then lowI (oI l j) else oI l j

theorem oI_range (l : List UInt8) (j : Nat) : 0 ≤ oI l j ∧ oI l j < 256 := by
  unfold oI
  have := (l.getD j 0).toNat_lt
  omega
theorem fI_range (l : List UInt8) (i j : Nat) : 0 ≤ fI l i j ∧ fI l i j < 256 := by
  have := oI_range l j
  unfold fI lowI
  split
  · split <;> omega
  · omega
theorem fI_0 (l : List UInt8) : fI l 0 = fun j => ((l.getD j 0).toNat : Int) := by
  funext j
  unfold fI
  rw [if_neg (Nat.not_lt_zero j)]
  rfl
theorem fI_at (l : List UInt8) (i : Nat) : fI l i (i : Int).toNat = oI l i := by
  rw [Int.toNat_natCast]
  unfold fI
  rw [if_neg (Nat.lt_irrefl i)]
theorem fI_same {l : List UInt8} {i : Nat} (h : ¬ (65 ≤ oI l i ∧ oI l i ≤ 90)) : fI l i = fI l (i + 1) := by
  funext j
  unfold fI
  by_cases h1 : j < i
  · rw [if_pos h1, if_pos (by omega)]
  · rw [if_neg h1]
    by_cases h2 : j < i + 1
    · obtain rfl : j = i := by omega
      rw [if_pos h2]
      unfold lowI
      rw [if_neg h]
    · rw [if_neg h2]
theorem fI_put {l : List UInt8} {i : Nat} {m : Int} (h : 65 ≤ oI l i ∧ oI l i ≤ 90) (hm : m = oI l i + 32) : (fun j => if j = (i : Int).toNat then m else fI l i j) = fI l (i + 1) := by
  funext j
  rw [Int.toNat_natCast]
  by_cases h0 : j = i
  · subst h0
    rw [if_pos rfl, hm]
    unfold fI lowI
    rw [if_pos (Nat.lt_succ_self j), if_pos h]
  · rw [if_neg h0]
    unfold fI
    by_cases h1 : j < i
    · rw [if_pos h1, if_pos (by omega)]
    · rw [if_neg h1, if_neg (by omega)]
theorem fI_end (l : List UInt8) : bmL l.length (fI l l.length) = smallL l := by
  unfold bmL smallL
  refine List.ext_getElem (by simp) fun i h1 h2 => ?_
  have h1 : i < l.length := by simpa using h1
  simp only [List.getElem_map, List.getElem_range]
  unfold fI oI
  rw [if_pos h1, List.getD_eq_getElem?_getD, List.getElem?_eq_getElem h1, Option.getD_some]

set_option maxRecDepth 100000 in
theorem small_ctr (l : List UInt8) (hl : l.length ≤ 1000000) : Ctr Tryd.prog 66 [.s l] (.s (smallL l)) := by
  refine r_fun Tryd.func66 rfl Tryd.ntmps66 Tryd.results66 rfl rfl fun X hL hX => ?_
  repeat' (first
    | refine r_cvB (l := l) Tryd.underlying9 Tryd.underlying22 Tryd.underlying5 rfl (by omega) rfl rfl ?_
    | with_reducible (first | refine t_seq ?_ | refine t_region ?_ | refine c_nil ?_ | refine n_then ?_ | refine t_ret ?_ | refine t_skip ?_ | refine t_exit ?_ | refine t_block ?_ | refine n_block ?_ | refine e_then ?_ | refine x_then ?_ | refine x_block ?_ | refine t_draw ?_)
    | refine r_val rfl rfl True.intro ?_ | refine r_gskip rfl rfl rfl ?_ | refine r_gskip2 rfl rfl rfl ?_ | refine r_gval rfl rfl rfl rfl True.intro ?_
    | refine t_true rfl ?_ | refine t_false rfl ?_
    | ((first | refine t_cond_d rfl ?_ ?_ | refine t_cond_i rfl ?_ ?_ | refine t_cond_j rfl ?_ ?_ | refine t_cond_s rfl ?_ ?_ | refine t_cond_n rfl ?_ ?_ | refine t_cond rfl ?_ ?_ | refine c_split_d rfl rfl ?_ ?_ | refine c_split_i rfl rfl ?_ ?_ | refine c_split_j rfl rfl ?_ ?_ | refine c_split_s rfl rfl ?_ ?_ | refine c_split_n rfl rfl ?_ ?_) <;> intro <;> try (first | contradiction | (exfalso; omega)))
    | ((first | refine r_val rfl rfl ?_ ?_ | refine r_gval rfl rfl rfl rfl ?_ ?_ | refine r_obj rfl rfl ?_ ?_ | refine r_sto rfl ?_ ?_ | refine r_gobj rfl rfl rfl rfl ?_ ?_); focus (first | omega | exact Nat.le_of_ble_eq_true rfl | (simp_all; done) | (simp_all; omega) | ((repeat' refine And.intro ?_ ?_) <;> first | omega | rfl | exact Nat.le_refl _ | exact Nat.le_of_ble_eq_true rfl | exact bytesF_one _ | (simp_all; done) | (simp_all; omega))))
    | refine e_hit rfl ?_ | refine e_miss rfl ?_
    | with_reducible refine ⟨by kernel_rfl, ?_⟩ | ((with_reducible refine c_grd ?_); (fail_if_success (refine c_lit true rfl rfl rfl ?_)); (fail_if_success (refine c_lit false rfl rfl rfl ?_)); refine c_split rfl rfl (fun _ => ?_) (fun _ => ?_)))
  refine T.loop hL (fun i : Nat => [(3, .ah 7 1 l.length), (8, .ah 7 1 l.length), (9, .i .i64 l.length), (10, .i .i64 i)]) (fun i => [(7, .bm 5 l.length (fI l i))]) (fun i => i ≤ l.length) (fun i => l.length - i) 0 (Nat.zero_le _)
    ⟨⟨rfl, rfl, rfl, rfl, trivial⟩, ⟨by rw [fI_0]; rfl, trivial⟩, rfl, fun q hq => by rw [hX] at hq; simp at hq⟩ ?_
  intro i hi
  by_cases hil : i < l.length
  · have hfa := fI_at l i
    have hr := oI_range l i
    by_cases hu : 65 ≤ oI l i ∧ oI l i ≤ 90
    · skip
      repeat' (first
        | refine r_ldB rfl rfl rfl (by omega) rfl ?_ | refine r_stB rfl rfl rfl rfl (by omega) ?_
        | with_reducible (first | refine t_seq ?_ | refine t_region ?_ | refine c_nil ?_ | refine n_then ?_ | refine t_ret ?_ | refine t_skip ?_ | refine t_exit ?_ | refine t_block ?_ | refine n_block ?_ | refine e_then ?_ | refine x_then ?_ | refine x_block ?_ | refine t_draw ?_)
        | refine r_val rfl rfl True.intro ?_ | refine r_gskip rfl rfl rfl ?_ | refine r_gskip2 rfl rfl rfl ?_ | refine r_gval rfl rfl rfl rfl True.intro ?_
        | refine t_true rfl ?_ | refine t_false rfl ?_
        | ((first | refine t_cond_d rfl ?_ ?_ | refine t_cond_i rfl ?_ ?_ | refine t_cond_j rfl ?_ ?_ | refine t_cond_s rfl ?_ ?_ | refine t_cond_n rfl ?_ ?_ | refine t_cond rfl ?_ ?_ | refine c_split_d rfl rfl ?_ ?_ | refine c_split_i rfl rfl ?_ ?_ | refine c_split_j rfl rfl ?_ ?_ | refine c_split_s rfl rfl ?_ ?_ | refine c_split_n rfl rfl ?_ ?_) <;> intro <;> try (first | contradiction | (exfalso; omega)))
        | ((first | refine r_val rfl rfl ?_ ?_ | refine r_gval rfl rfl rfl rfl ?_ ?_ | refine r_obj rfl rfl ?_ ?_ | refine r_sto rfl ?_ ?_ | refine r_gobj rfl rfl rfl rfl ?_ ?_); focus (first | omega | exact Nat.le_of_ble_eq_true rfl | (simp_all; done) | (simp_all; omega) | ((repeat' refine And.intro ?_ ?_) <;> first | omega | rfl | exact Nat.le_refl _ | exact Nat.le_of_ble_eq_true rfl | exact bytesF_one _ | (simp_all; done) | (simp_all; omega))))
        | refine e_hit rfl ?_ | refine e_miss rfl ?_
        | with_reducible refine ⟨by kernel_rfl, ?_⟩ | refine x_end rfl ?_ | refine n_end rfl ?_ | ((with_reducible refine c_grd ?_); (fail_if_success (refine c_lit true rfl rfl rfl ?_)); (fail_if_success (refine c_lit false rfl rfl rfl ?_)); refine c_split rfl rfl (fun _ => ?_) (fun _ => ?_)))
      all_goals exact ⟨i + 1, by omega, by omega, ⟨rfl, rfl, rfl, congrArg (D.i .i64) (by omega), trivial⟩, ⟨congrArg (fun f => some (Own.bm 5 l.length f)) (fI_put hu (by rw [hfa]; simp only [wrap_u8]; omega)), trivial⟩, rfl, fun q hq => by rw [hX] at hq; simp at hq⟩
    · skip
      repeat' (first
        | refine r_ldB rfl rfl rfl (by omega) rfl ?_ | refine r_stB rfl rfl rfl rfl (by omega) ?_
        | with_reducible (first | refine t_seq ?_ | refine t_region ?_ | refine c_nil ?_ | refine n_then ?_ | refine t_ret ?_ | refine t_skip ?_ | refine t_exit ?_ | refine t_block ?_ | refine n_block ?_ | refine e_then ?_ | refine x_then ?_ | refine x_block ?_ | refine t_draw ?_)
        | refine r_val rfl rfl True.intro ?_ | refine r_gskip rfl rfl rfl ?_ | refine r_gskip2 rfl rfl rfl ?_ | refine r_gval rfl rfl rfl rfl True.intro ?_
        | refine t_true rfl ?_ | refine t_false rfl ?_
        | ((first | refine t_cond_d rfl ?_ ?_ | refine t_cond_i rfl ?_ ?_ | refine t_cond_j rfl ?_ ?_ | refine t_cond_s rfl ?_ ?_ | refine t_cond_n rfl ?_ ?_ | refine t_cond rfl ?_ ?_ | refine c_split_d rfl rfl ?_ ?_ | refine c_split_i rfl rfl ?_ ?_ | refine c_split_j rfl rfl ?_ ?_ | refine c_split_s rfl rfl ?_ ?_ | refine c_split_n rfl rfl ?_ ?_) <;> intro <;> try (first | contradiction | (exfalso; omega)))
        | ((first | refine r_val rfl rfl ?_ ?_ | refine r_gval rfl rfl rfl rfl ?_ ?_ | refine r_obj rfl rfl ?_ ?_ | refine r_sto rfl ?_ ?_ | refine r_gobj rfl rfl rfl rfl ?_ ?_); focus (first | omega | exact Nat.le_of_ble_eq_true rfl | (simp_all; done) | (simp_all; omega) | ((repeat' refine And.intro ?_ ?_) <;> first | omega | rfl | exact Nat.le_refl _ | exact Nat.le_of_ble_eq_true rfl | exact bytesF_one _ | (simp_all; done) | (simp_all; omega))))
        | refine e_hit rfl ?_ | refine e_miss rfl ?_
        | with_reducible refine ⟨by kernel_rfl, ?_⟩ | refine x_end rfl ?_ | refine n_end rfl ?_ | ((with_reducible refine c_grd ?_); (fail_if_success (refine c_lit true rfl rfl rfl ?_)); (fail_if_success (refine c_lit false rfl rfl rfl ?_)); refine c_split rfl rfl (fun _ => ?_) (fun _ => ?_)))
      all_goals exact ⟨i + 1, by omega, by omega, ⟨rfl, rfl, rfl, congrArg (D.i .i64) (by omega), trivial⟩, ⟨congrArg (fun f => some (Own.bm 5 l.length f)) (fI_same hu), trivial⟩, rfl, fun q hq => by rw [hX] at hq; simp at hq⟩
  · have : i = l.length := by omega
    subst this
    repeat' (first
      | refine r_strB Tryd.underlying22 Tryd.underlying5 Tryd.underlying9 rfl rfl (fun i _ => fI_range l l.length i) rfl ?_
      | with_reducible (first | refine t_seq ?_ | refine t_region ?_ | refine c_nil ?_ | refine n_then ?_ | refine t_ret ?_ | refine t_skip ?_ | refine t_exit ?_ | refine t_block ?_ | refine n_block ?_ | refine e_then ?_ | refine x_then ?_ | refine x_block ?_ | refine t_draw ?_)
      | refine r_val rfl rfl True.intro ?_ | refine r_gskip rfl rfl rfl ?_ | refine r_gskip2 rfl rfl rfl ?_ | refine r_gval rfl rfl rfl rfl True.intro ?_
      | refine t_true rfl ?_ | refine t_false rfl ?_
      | ((first | refine t_cond_d rfl ?_ ?_ | refine t_cond_i rfl ?_ ?_ | refine t_cond_j rfl ?_ ?_ | refine t_cond_s rfl ?_ ?_ | refine t_cond_n rfl ?_ ?_ | refine t_cond rfl ?_ ?_ | refine c_split_d rfl rfl ?_ ?_ | refine c_split_i rfl rfl ?_ ?_ | refine c_split_j rfl rfl ?_ ?_ | refine c_split_s rfl rfl ?_ ?_ | refine c_split_n rfl rfl ?_ ?_) <;> intro <;> try (first | contradiction | (exfalso; omega)))
      | ((first | refine r_val rfl rfl ?_ ?_ | refine r_gval rfl rfl rfl rfl ?_ ?_ | refine r_obj rfl rfl ?_ ?_ | refine r_sto rfl ?_ ?_ | refine r_gobj rfl rfl rfl rfl ?_ ?_); focus (first | omega | exact Nat.le_of_ble_eq_true rfl | (simp_all; done) | (simp_all; omega) | ((repeat' refine And.intro ?_ ?_) <;> first | omega | rfl | exact Nat.le_refl _ | exact Nat.le_of_ble_eq_true rfl | exact bytesF_one _ | (simp_all; done) | (simp_all; omega))))
      | refine e_hit rfl ?_ | refine e_miss rfl ?_
      | with_reducible refine ⟨by kernel_rfl, ?_⟩ | refine x_end rfl (by rw [fI_end]) | refine n_end rfl (by rw [fI_end]) | ((with_reducible refine c_grd ?_); (fail_if_success (refine c_lit true rfl rfl rfl ?_)); (fail_if_success (refine c_lit false rfl rfl rfl ?_)); refine c_split rfl rfl (fun _ => ?_) (fun _ => ?_)))

/-! ### A part -/
abbrev bl : List UInt8 := [32, 9]
theorem trimL_len (l cs : List UInt8) : (Lib.trimLeftS l cs).length ≤ l.length := (List.dropWhile_sublist _).length_le
theorem trimR_len (l cs : List UInt8) : (Lib.trimRightS l cs).length ≤ l.length := by
  unfold Lib.trimRightS
  have := (List.dropWhile_sublist (l := l.reverse) (cs.contains ·)).length_le
  rw [List.length_reverse] at this ⊢
  exact this
theorem trim_len (l cs : List UInt8) : (Lib.trimS l cs).length ≤ l.length := Nat.le_trans (trimL_len _ _) (trimR_len _ _)
theorem cut_len (s sep : List UInt8) : (Lib.cut s sep).1.length ≤ s.length ∧ (Lib.cut s sep).2.1.length ≤ s.length := by
  unfold Lib.cut
  split
  · simp only [List.length_take, List.length_drop]
    omega
  · simp

def elemV (s : List UInt8) : List UInt8 × Int × Bool :=
  if (Lib.cut (Lib.trimS s bl) [59]).2.2 = false then (smallL (Lib.trimRightS (Lib.cut (Lib.trimS s bl) [59]).1 bl), 1000, true)
  else if (Lib.trimS (Lib.cut (Lib.trimS s bl) [59]).2.1 bl).length < 2 ∨ ¬ smallL ((Lib.trimS (Lib.cut (Lib.trimS s bl) [59]).2.1 bl).take 2) = [113, 61] then ([], 0, false)
  else (smallL (Lib.trimRightS (Lib.cut (Lib.trimS s bl) [59]).1 bl), qualV ((Lib.trimS (Lib.cut (Lib.trimS s bl) [59]).2.1 bl).drop 2))
def elemD (s : List UInt8) : D := .tu [.s (elemV s).1, .i .i64 (elemV s).2.1, .b (elemV s).2.2]

set_option maxRecDepth 100000 in
theorem element_ctr (s : List UInt8) (hs : s.length ≤ 100000) : Ctr Tryd.prog 62 [.s s] (elemD s) := by
  have t1 := trim_len s bl
  have t2 := cut_len (Lib.trimS s bl) [59]
  have c1 := w_trim s bl (by omega) (by decide) blanks_ascii
  have c2 := w_cut (Lib.trimS s bl) [59] (by omega)
  have hv : elemD s = elemD s := rfl
  unfold elemD elemV
  generalize Lib.cut (Lib.trimS s bl) [59] = cu at *
  obtain ⟨na, re, mo⟩ := cu
  dsimp only at t2 c2 ⊢
  have t3 := trimR_len na bl
  have t4 := trim_len re bl
  have c3 := w_trimRight na bl (by omega) (by decide) blanks_ascii
  have c4 := small_ctr (Lib.trimRightS na bl) (by omega)
  have c5 := w_trim re bl (by omega) (by decide) blanks_ascii
  generalize Lib.trimS re bl = rs at *
  have c6 := small_ctr (rs.take 2) (by rw [List.length_take]; omega)
  have e7 : (rs.take ((rs.length : Int)).toNat).drop 2 = rs.drop 2 := by simp
  have c7 := quality_ctr ((rs.take ((rs.length : Int)).toNat).drop 2) (by rw [e7, List.length_drop]; omega)
  rw [e7] at c7
  have c7' : Ctr Tryd.prog 15 [.s ((rs.take ((rs.length : Int)).toNat).drop 2)] (.tu [.i .i64 (qualV (rs.drop 2)).1, .b (qualV (rs.drop 2)).2]) := by rw [e7]; exact c7
  generalize smallL (Lib.trimRightS na bl) = nm at *
  refine r_fun Tryd.func62 rfl Tryd.ntmps62 Tryd.results62 rfl rfl fun X hL hX => ?_
  cases mo with
  | false =>
    rw [if_pos rfl]
    repeat' (first
      | refine r_call (f := 67) rfl rfl Tryd.call67 rfl c1 ?_ | refine r_call (f := 44) rfl rfl Tryd.call44 rfl c2 ?_ | refine r_call (f := 83) rfl rfl Tryd.call83 rfl c3 ?_ | refine r_call (f := 66) rfl rfl Tryd.call66 rfl c4 ?_ | refine r_call (f := 67) rfl rfl Tryd.call67 rfl c5 ?_ | refine r_gcall (f := 66) rfl rfl rfl rfl Tryd.call66 rfl c6 ?_ | refine r_call (f := 15) rfl rfl Tryd.call15 rfl c7' ?_
      | with_reducible (first | refine t_seq ?_ | refine t_region ?_ | refine c_nil ?_ | refine n_then ?_ | refine t_ret ?_ | refine t_skip ?_ | refine t_exit ?_ | refine t_block ?_ | refine n_block ?_ | refine e_then ?_ | refine x_then ?_ | refine x_block ?_ | refine t_draw ?_)
      | refine r_val rfl rfl True.intro ?_ | refine r_gskip rfl rfl rfl ?_ | refine r_gskip2 rfl rfl rfl ?_ | refine r_gval rfl rfl rfl rfl True.intro ?_
      | refine t_true rfl ?_ | refine t_false rfl ?_
      | ((first | refine t_cond_d rfl ?_ ?_ | refine t_cond_i rfl ?_ ?_ | refine t_cond_j rfl ?_ ?_ | refine t_cond_s rfl ?_ ?_ | refine t_cond_n rfl ?_ ?_ | refine t_cond rfl ?_ ?_ | refine c_split_d rfl rfl ?_ ?_ | refine c_split_i rfl rfl ?_ ?_ | refine c_split_j rfl rfl ?_ ?_ | refine c_split_s rfl rfl ?_ ?_ | refine c_split_n rfl rfl ?_ ?_) <;> intro <;> try (first | contradiction | (exfalso; omega)))
      | ((first | refine r_val rfl rfl ?_ ?_ | refine r_gval rfl rfl rfl rfl ?_ ?_ | refine r_obj rfl rfl ?_ ?_ | refine r_sto rfl ?_ ?_ | refine r_gobj rfl rfl rfl rfl ?_ ?_); focus (first | omega | exact Nat.le_of_ble_eq_true rfl | (simp_all; done) | (simp_all; omega) | ((repeat' refine And.intro ?_ ?_) <;> first | omega | rfl | exact Nat.le_refl _ | exact Nat.le_of_ble_eq_true rfl | exact bytesF_one _ | (simp_all; done) | (simp_all; omega))))
      | refine e_hit rfl ?_ | refine e_miss rfl ?_
      | with_reducible refine ⟨by kernel_rfl, ?_⟩ | refine x_end rfl ?_ | refine n_end rfl ?_ | ((with_reducible refine c_grd ?_); (fail_if_success (refine c_lit true rfl rfl rfl ?_)); (fail_if_success (refine c_lit false rfl rfl rfl ?_)); refine c_split rfl rfl (fun _ => ?_) (fun _ => ?_)))
    all_goals rfl
  | true =>
    rw [if_neg (by simp)]
    by_cases h2 : rs.length < 2
    · rw [if_pos (.inl h2)]
      repeat' (first
        | refine r_call (f := 67) rfl rfl Tryd.call67 rfl c1 ?_ | refine r_call (f := 44) rfl rfl Tryd.call44 rfl c2 ?_ | refine r_call (f := 83) rfl rfl Tryd.call83 rfl c3 ?_ | refine r_call (f := 66) rfl rfl Tryd.call66 rfl c4 ?_ | refine r_call (f := 67) rfl rfl Tryd.call67 rfl c5 ?_ | refine r_gcall (f := 66) rfl rfl rfl rfl Tryd.call66 rfl c6 ?_ | refine r_call (f := 15) rfl rfl Tryd.call15 rfl c7' ?_
        | with_reducible (first | refine t_seq ?_ | refine t_region ?_ | refine c_nil ?_ | refine n_then ?_ | refine t_ret ?_ | refine t_skip ?_ | refine t_exit ?_ | refine t_block ?_ | refine n_block ?_ | refine e_then ?_ | refine x_then ?_ | refine x_block ?_ | refine t_draw ?_)
        | refine r_val rfl rfl True.intro ?_ | refine r_gskip rfl rfl rfl ?_ | refine r_gskip2 rfl rfl rfl ?_ | refine r_gval rfl rfl rfl rfl True.intro ?_
        | refine t_true rfl ?_ | refine t_false rfl ?_
        | ((first | refine t_cond_d rfl ?_ ?_ | refine t_cond_i rfl ?_ ?_ | refine t_cond_j rfl ?_ ?_ | refine t_cond_s rfl ?_ ?_ | refine t_cond_n rfl ?_ ?_ | refine t_cond rfl ?_ ?_ | refine c_split_d rfl rfl ?_ ?_ | refine c_split_i rfl rfl ?_ ?_ | refine c_split_j rfl rfl ?_ ?_ | refine c_split_s rfl rfl ?_ ?_ | refine c_split_n rfl rfl ?_ ?_) <;> intro <;> try (first | contradiction | (exfalso; omega)))
        | ((first | refine r_val rfl rfl ?_ ?_ | refine r_gval rfl rfl rfl rfl ?_ ?_ | refine r_obj rfl rfl ?_ ?_ | refine r_sto rfl ?_ ?_ | refine r_gobj rfl rfl rfl rfl ?_ ?_); focus (first | omega | exact Nat.le_of_ble_eq_true rfl | (simp_all; done) | (simp_all; omega) | ((repeat' refine And.intro ?_ ?_) <;> first | omega | rfl | exact Nat.le_refl _ | exact Nat.le_of_ble_eq_true rfl | exact bytesF_one _ | (simp_all; done) | (simp_all; omega))))
        | refine e_hit rfl ?_ | refine e_miss rfl ?_
        | with_reducible refine ⟨by kernel_rfl, ?_⟩ | refine x_end rfl ?_ | refine n_end rfl ?_ | ((with_reducible refine c_grd ?_); (fail_if_success (refine c_lit true rfl rfl rfl ?_)); (fail_if_success (refine c_lit false rfl rfl rfl ?_)); refine c_split rfl rfl (fun _ => ?_) (fun _ => ?_)))
      all_goals first | rfl | (exfalso; omega)
    · generalize hsm : smallL (rs.take 2) = sm at *
      by_cases hq : sm = [113, 61]
      · subst hq
        rw [if_neg (by intro h; rcases h with h | h; exact h2 h; exact h rfl)]
        repeat' (first
          | refine r_call (f := 67) rfl rfl Tryd.call67 rfl c1 ?_ | refine r_call (f := 44) rfl rfl Tryd.call44 rfl c2 ?_ | refine r_call (f := 83) rfl rfl Tryd.call83 rfl c3 ?_ | refine r_call (f := 66) rfl rfl Tryd.call66 rfl c4 ?_ | refine r_call (f := 67) rfl rfl Tryd.call67 rfl c5 ?_ | refine r_gcall (f := 66) rfl rfl rfl rfl Tryd.call66 rfl c6 ?_ | refine r_call (f := 15) rfl rfl Tryd.call15 rfl c7' ?_
          | with_reducible (first | refine t_seq ?_ | refine t_region ?_ | refine c_nil ?_ | refine n_then ?_ | refine t_ret ?_ | refine t_skip ?_ | refine t_exit ?_ | refine t_block ?_ | refine n_block ?_ | refine e_then ?_ | refine x_then ?_ | refine x_block ?_ | refine t_draw ?_)
          | refine r_val rfl rfl True.intro ?_ | refine r_gskip rfl rfl rfl ?_ | refine r_gskip2 rfl rfl rfl ?_ | refine r_gval rfl rfl rfl rfl True.intro ?_
          | refine t_true rfl ?_ | refine t_false rfl ?_
          | ((first | refine t_cond_d rfl ?_ ?_ | refine t_cond_i rfl ?_ ?_ | refine t_cond_j rfl ?_ ?_ | refine t_cond_s rfl ?_ ?_ | refine t_cond_n rfl ?_ ?_ | refine t_cond rfl ?_ ?_ | refine c_split_d rfl rfl ?_ ?_ | refine c_split_i rfl rfl ?_ ?_ | refine c_split_j rfl rfl ?_ ?_ | refine c_split_s rfl rfl ?_ ?_ | refine c_split_n rfl rfl ?_ ?_) <;> intro <;> try (first | contradiction | (exfalso; omega)))
          | ((first | refine r_val rfl rfl ?_ ?_ | refine r_gval rfl rfl rfl rfl ?_ ?_ | refine r_obj rfl rfl ?_ ?_ | refine r_sto rfl ?_ ?_ | refine r_gobj rfl rfl rfl rfl ?_ ?_); focus (first | omega | exact Nat.le_of_ble_eq_true rfl | (simp_all; done) | (simp_all; omega) | ((repeat' refine And.intro ?_ ?_) <;> first | omega | rfl | exact Nat.le_refl _ | exact Nat.le_of_ble_eq_true rfl | exact bytesF_one _ | (simp_all; done) | (simp_all; omega))))
          | refine e_hit rfl ?_ | refine e_miss rfl ?_
          | with_reducible refine ⟨by kernel_rfl, ?_⟩ | refine x_end rfl ?_ | refine n_end rfl ?_ | ((with_reducible refine c_grd ?_); (fail_if_success (refine c_lit true rfl rfl rfl ?_)); (fail_if_success (refine c_lit false rfl rfl rfl ?_)); refine c_split rfl rfl (fun _ => ?_) (fun _ => ?_)))
        all_goals first | rfl | (exfalso; omega)
      · rw [if_pos (.inr hq)]
        repeat' (first
          | refine r_call (f := 67) rfl rfl Tryd.call67 rfl c1 ?_ | refine r_call (f := 44) rfl rfl Tryd.call44 rfl c2 ?_ | refine r_call (f := 83) rfl rfl Tryd.call83 rfl c3 ?_ | refine r_call (f := 66) rfl rfl Tryd.call66 rfl c4 ?_ | refine r_call (f := 67) rfl rfl Tryd.call67 rfl c5 ?_ | refine r_gcall (f := 66) rfl rfl rfl rfl Tryd.call66 rfl c6 ?_ | refine r_call (f := 15) rfl rfl Tryd.call15 rfl c7' ?_
          | with_reducible (first | refine t_seq ?_ | refine t_region ?_ | refine c_nil ?_ | refine n_then ?_ | refine t_ret ?_ | refine t_skip ?_ | refine t_exit ?_ | refine t_block ?_ | refine n_block ?_ | refine e_then ?_ | refine x_then ?_ | refine x_block ?_ | refine t_draw ?_)
          | refine r_val rfl rfl True.intro ?_ | refine r_gskip rfl rfl rfl ?_ | refine r_gskip2 rfl rfl rfl ?_ | refine r_gval rfl rfl rfl rfl True.intro ?_
          | refine t_true rfl ?_ | refine t_false rfl ?_
          | ((first | refine t_cond_d rfl ?_ ?_ | refine t_cond_i rfl ?_ ?_ | refine t_cond_j rfl ?_ ?_ | refine t_cond_s rfl ?_ ?_ | refine t_cond_n rfl ?_ ?_ | refine t_cond rfl ?_ ?_ | refine c_split_d rfl rfl ?_ ?_ | refine c_split_i rfl rfl ?_ ?_ | refine c_split_j rfl rfl ?_ ?_ | refine c_split_s rfl rfl ?_ ?_ | refine c_split_n rfl rfl ?_ ?_) <;> intro <;> try (first | contradiction | (exfalso; omega)))
          | ((first | refine r_val rfl rfl ?_ ?_ | refine r_gval rfl rfl rfl rfl ?_ ?_ | refine r_obj rfl rfl ?_ ?_ | refine r_sto rfl ?_ ?_ | refine r_gobj rfl rfl rfl rfl ?_ ?_); focus (first | omega | exact Nat.le_of_ble_eq_true rfl | (simp_all; done) | (simp_all; omega) | ((repeat' refine And.intro ?_ ?_) <;> first | omega | rfl | exact Nat.le_refl _ | exact Nat.le_of_ble_eq_true rfl | exact bytesF_one _ | (simp_all; done) | (simp_all; omega))))
          | refine e_hit rfl ?_ | refine e_miss rfl ?_
          | with_reducible refine ⟨by kernel_rfl, ?_⟩ | refine x_end rfl ?_ | refine n_end rfl ?_ | ((with_reducible refine c_grd ?_); (fail_if_success (refine c_lit true rfl rfl rfl ?_)); (fail_if_success (refine c_lit false rfl rfl rfl ?_)); refine c_split rfl rfl (fun _ => ?_) (fun _ => ?_)))
        all_goals first | rfl | (exfalso; omega) | (exfalso; rename_i hz; exact hq (by simpa using hz))

end Go.Proofs.YtghdgjabpdfaoaaDoor.Flow

/-
  FLOW, PART Y: MAPS FROM TEXTS: made, looked up, written to.
-/
namespace Go.Proofs.YtghdgjabpdfaoaaDoor.Flow
open Go

abbrev Ents := List (List UInt8 × D)

def mget (key : List UInt8) : Ents → Option D
  | [] => none
  | p :: r => if p.1 = key then some p.2 else mget key r
def mput (key : List UInt8) (d : D) : Ents → Ents
  | [] => [(key, d)]
  | p :: r => if p.1 = key then (key, d) :: r else p :: mput key d r
def mdel (key : List UInt8) : Ents → Ents
  | [] => []
  | p :: r => if p.1 = key then r else p :: mdel key r
/-- Where a key stands first. -/
def mpos (key : List UInt8) : Ents → Nat
  | [] => 0
  | p :: r => if p.1 = key then 0 else mpos key r + 1

theorem mpos_le (key : List UInt8) : ∀ es : Ents, mpos key es ≤ es.length
  | [] => Nat.le_refl _
  | p :: r => by
    have := mpos_le key r
    unfold mpos
    split
    · simp
    · simpa using this

theorem mpos_key (key : List UInt8) : ∀ es : Ents, mpos key es < es.length → (es.getD (mpos key es) ([], .any)).1 = key
  | [], h => by simp at h
  | p :: r, h => by
    unfold mpos at h ⊢
    by_cases hk : p.1 = key
    · simp [hk]
    · rw [if_neg hk] at h ⊢
      have := mpos_key key r (by simpa using h)
      simpa using this

theorem mget_pos (key : List UInt8) : ∀ es : Ents, mget key es = if mpos key es < es.length then some (es.getD (mpos key es) ([], .any)).2 else none
  | [] => rfl
  | p :: r => by
    have ih := mget_pos key r
    unfold mget mpos
    by_cases h : p.1 = key
    · simp [h]
    · rw [if_neg h, if_neg h, ih]
      simp

theorem mput_pos (key : List UInt8) (d : D) : ∀ es : Ents, mput key d es = if mpos key es < es.length then es.set (mpos key es) (key, d) else es ++ [(key, d)]
  | [] => rfl
  | p :: r => by
    have ih := mput_pos key d r
    unfold mput mpos
    by_cases h : p.1 = key
    · simp [h]
    · rw [if_neg h, if_neg h, ih]
      simp only [List.length_cons, Nat.add_lt_add_iff_right]
      split <;> simp

/-- The keys of a map's entries. -/
def KeysOk : Ents → List MapEntry → Prop
  | [], [] => True
  | p :: r, e :: l => e.key = .string ⟨p.1.toArray⟩ ∧ KeysOk r l
  | _, _ => False

theorem keys_of : ∀ {es : Ents} {l : List MapEntry}, l.length = es.length → (∀ j, j < es.length → (l.getD j default).key = .string ⟨(es.getD j ([], .any)).1.toArray⟩) → KeysOk es l
  | [], [], _, _ => trivial
  | [], _ :: _, h, _ => by simp at h
  | _ :: _, [], h, _ => by simp at h
  | p :: r, e :: l, hn, h => ⟨h 0 (by simp), keys_of (by simpa using hn) fun j hj => by
      have := h (j + 1) (by simpa using hj)
      simpa using this⟩

theorem str_eq (a b : List UInt8) : ((⟨a.toArray⟩ : ByteArray) == ⟨b.toArray⟩) = decide (a = b) := by
  by_cases h : a = b
  · subst h
    simp [MapKept.bytes_beq]
  · rw [decide_eq_false h]
    cases hb : ((⟨a.toArray⟩ : ByteArray) == ⟨b.toArray⟩) with
    | false => rfl
    | true =>
      have := (MapKept.bytes_beq _ _).1 hb
      simp at this
      exact absurd this h

theorem find_mp (key : List UInt8) : ∀ (es : Ents) (l : List MapEntry) (i : Nat), KeysOk es l →
    Instr.findNow .string (.string ⟨key.toArray⟩) l i = some (if mpos key es < es.length then some (i + mpos key es, (l.getD (mpos key es) default).val) else none)
  | [], [], i, _ => rfl
  | [], _ :: _, _, h => h.elim
  | _ :: _, [], _, h => h.elim
  | p :: r, e :: l, i, h => by
    have ih := find_mp key r l (i + 1) h.2
    have hs : Instr.sameNow .string (.string ⟨key.toArray⟩) e.key = some (decide (key = p.1)) := by
      rw [h.1]
      show some _ = _
      rw [str_eq]
    unfold Instr.findNow
    rw [hs]
    unfold mpos
    by_cases hk : p.1 = key
    · rw [decide_eq_true hk.symm]
      simp [hk]
    · rw [decide_eq_false (fun h => hk h.symm)]
      simp only [ih, hk, if_false, List.length_cons, Nat.add_lt_add_iff_right]
      split
      · simp
        omega
      · rfl

section
variable {P : Program} {X : Ctx} {n : Nat} {O : Nat → Option Own} {w : World} {S : Cells} {r : Rho}

theorem mp_keys {k : Nat} {es : Ents} (h : ObjOk S w r k (.mp es)) : ∃ b arr clock, r k = some (.blk b) ∧ w.heap[b]? = some (.map arr clock) ∧ KeysOk es arr.toList ∧ arr.size = es.length ∧ (∀ j, j < es.length → EntOk S w r (es.getD j ([], .any)) (arr.getD j default)) ∧ BornOk arr clock ∧ ∀ o, ¬ S b o := by
  obtain ⟨b, arr, clock, h1, h2, h3, h4, h5, h6⟩ := h
  refine ⟨b, arr, clock, h1, h2, keys_of (by simpa using h3) (fun j hj => ?_), h3, h4, h5, h6⟩
  have := (h4 j hj).1
  simpa [List.getD_eq_getElem?_getD, Array.getD_eq_getD_getElem?] using this

/-- A new map. -/
theorem newMp_ok (hH : Hist X w S) (hI : Inv X w S r O) {k : Nat} (hk : O k = none) :
    ∃ r', Rel S (w.alloc (.map #[] 0)) r' (.mh k) (.map (some w.heap.size)) ∧ Hist X (w.alloc (.map #[] 0)) S ∧ Inv X (w.alloc (.map #[] 0)) S r' (updO O [(k, .mp [])]) ∧
      (∀ b o, S b o → (w.alloc (.map #[] 0)).cell? ⟨b, o, none⟩ = w.cell? ⟨b, o, none⟩) ∧ RhoLe r r' := by
  have hc := Chg.alloc w S hH.valid (.map #[] 0)
  have hr : RhoLe r (updR r k (.blk w.heap.size)) := RhoLe.new (hI.dom k hk)
  have hk0 : updR r k (.blk w.heap.size) k = some (.blk w.heap.size) := by simp [updR]
  refine ⟨updR r k (.blk w.heap.size), .mh _ k _ hk0, ?_, ?_, hc.cell, hr⟩
  · exact hH.chg hc (fun b hb => by cases hb) (fun _ _ h => h) (fun b o h => .inl h)
  · refine hI.put hc (fun _ _ h => h) hr k _ (.blk w.heap.size) ?_ hk0 (fun j hj => by simp [updR, hj]) (fun b hb => ?_) (fun b hb => by cases hb) (fun b o h => .inl h)
    · exact ⟨w.heap.size, #[], 0, hk0, heap_alloc_new w _, rfl, fun j hj => by simp at hj, ⟨fun i j _ h => by simp at h, fun i h => by simp at h⟩, fun o ho => by have := hH.valid _ _ ho; omega⟩
    · simp only [Loc.block, Option.some.injEq] at hb
      subst hb
      exact .inl ⟨Nat.le_refl _, .inl hH.size⟩

/-- A map's entries become others. -/
theorem setMp_ok {es es2 : Ents} {arr arr2 : Array MapEntry} {clock clock2 b : Nat} (hH : Hist X w S) (hI : Inv X w S r O) {k : Nat} (hk : O k = some (.mp es)) (hb : r k = some (.blk b)) (hw : w.heap[b]? = some (.map arr clock)) (hS : ∀ o, ¬ S b o)
    (hn : arr2.size = es2.length) (he : ∀ j, j < es2.length → EntOk S w r (es2.getD j ([], .any)) (arr2.getD j default)) (hbo : BornOk arr2 clock2) :
    Hist X { w with heap := w.heap.setIfInBounds b (.map arr2 clock2) } S ∧ Inv X { w with heap := w.heap.setIfInBounds b (.map arr2 clock2) } S r (updO O [(k, .mp es2)]) ∧
      (∀ b' o, S b' o → ({ w with heap := w.heap.setIfInBounds b (.map arr2 clock2) } : World).cell? ⟨b', o, none⟩ = w.cell? ⟨b', o, none⟩) := by
  have hc := Chg.setObj w S b (.map arr2 clock2) hS
  have hlow := hI.low k _ b hb rfl
  refine ⟨?_, ?_, hc.cell⟩
  · exact hH.chg hc (fun b' hb' => by cases hb'; exact hlow) (fun _ _ h => h) (fun b o h => .inl h)
  · refine hI.put hc (fun _ _ h => h) (RhoLe.refl r) k _ (.blk b) ?_ hb (fun _ _ => rfl) (fun b' hb' => .inr ⟨_, hb, hb'⟩) (fun b' hb' => ⟨_, hb, hb'⟩) (fun b o h => .inl h)
    have hlt := (Array.getElem?_eq_some_iff.1 hw).1
    exact ⟨b, arr2, clock2, hb, by simp [hlt], hn, fun j hj => ⟨(he j hj).1, (he j hj).2.1.mono (fun _ _ h => h) hc.cell r (RhoLe.refl r), (he j hj).2.2⟩, hbo, hS⟩

variable {o : Oper} {fr : Fr} {ow : Ow} {t k : Nat} {ty kt et : TypeId} {x y z : Operand} {es : Ents} {key : List UInt8}

theorem mnew_step (ho : o.op = .makeMap ty none) (ht : look t ow = none) (hd : dstOk o.dst n) :
    ∀ F' O', (∀ y ∈ o.op.operands.toList, evF F' y = evF (fF fr) y) → (∀ j ∈ [t], O' j = fO ow j) → StepAt P X n o F' O' (.mh t) [(t, .mp [])] := by
  intro F' O' he hO
  refine stepAt_of hd fun a w S r hH hI hr => ?_
  have hk : O' t = none := (hO t (by simp)).trans ht
  obtain ⟨r', g1, g2, g3, g4, g5⟩ := newMp_ok hH hI hk
  refine ⟨_, _, S, r', .inl ?_, g1, g2, g3, fun _ _ h => h, g4, g5⟩
  simp [execOp, ho, Instr.makeMap, Sem.run_bind, newObj, Sem.run, Result.andThen]

/-- The pair of a look-up. -/
def gotD (ok : Bool) (d : D) (c : Bool) : D :=
  match c with
  | true => .tu [d, .b ok]
  | false => d

theorem got_rel {d : D} {v : Value} (h : Rel S w r d v) (ok c : Bool) : Rel S w r (gotD ok d c) (if c then .tuple #[v, .bool ok] else v) := by
  cases c with
  | false => exact h
  | true =>
    refine .tu _ _ _ rfl fun j hj => ?_
    match j, hj with
    | 0, _ => exact h
    | 1, _ => exact .b ..

theorem mhit_step {d : D} {c : Bool} (hm : P.underlying ty = some (.map kt et)) (hkt : P.underlying kt = some .string) (ho : o.op = .lookup ty x y c) (hx : ev fr x = .mh k) (hy : ev fr y = .s key) (hk : look k ow = some (.mp es)) (hg : mget key es = some d) (hd : dstOk o.dst n) :
    ∀ F' O', (∀ y ∈ o.op.operands.toList, evF F' y = evF (fF fr) y) → (∀ j ∈ [k], O' j = fO ow j) → StepAt P X n o F' O' (gotD true d c) [] := by
  intro F' O' he hO
  refine stepAt_of hd fun a w S r hH hI hr => ?_
  have hx' := hr x
  rw [he x (by simp [ho, Op.operands]), evF_fF, hx] at hx'
  have hy' := hr y
  rw [he y (by simp [ho, Op.operands]), evF_fF, hy] at hy'
  obtain ⟨b, arr, clock, h1, h2, h3, h4, h5, h6, h7⟩ := mp_keys (hI.obj k _ ((hO k (by simp)).trans hk))
  generalize hvx : a.eval x = vx at hx'
  generalize hvy : a.eval y = vy at hy'
  cases hy'
  cases hx' with
  | mh _ _ b' hb' =>
    rw [h1] at hb'
    cases hb'
    have hf := find_mp key es arr.toList 0 h3
    rw [mget_pos] at hg
    split at hg
    · rename_i hlt
      rw [if_pos hlt] at hf
      obtain ⟨_, hev, _⟩ := h5 _ hlt
      rw [Option.some.inj hg] at hev
      have e1 : arr.toList.getD (mpos key es) default = arr.getD (mpos key es) default := by simp [List.getD_eq_getElem?_getD, Array.getD_eq_getD_getElem?]
      rw [e1] at hf
      refine fin_value hH hI rfl ?_ (got_rel hev true c)
      simp [execOp, ho, hvx, hvy, Instr.lookup, run_underlying hm, MapKept.run_getObj_map h2, MapKept.run_checkKey hkt (show MapKept.IsKey .string (.string ⟨key.toArray⟩) from trivial), MapKept.run_findKey hkt hf, Result.andThen]
    · cases hg

theorem mmiss_step {zd : D} {c : Bool} {B' : Tb} (hB : tb P = B') (hz : B'.zr et = some zd) (hm : P.underlying ty = some (.map kt et)) (hkt : P.underlying kt = some .string) (ho : o.op = .lookup ty x y c) (hx : ev fr x = .mh k) (hy : ev fr y = .s key) (hk : look k ow = some (.mp es)) (hg : mget key es = none) (hd : dstOk o.dst n) :
    ∀ F' O', (∀ y ∈ o.op.operands.toList, evF F' y = evF (fF fr) y) → (∀ j ∈ [k], O' j = fO ow j) → StepAt P X n o F' O' (gotD false zd c) [] := by
  intro F' O' he hO
  have hz' : zeroD P et = some zd := by subst hB; exact hz
  obtain ⟨i, zv, q1, q2, q3⟩ := zeroD_spec hz'
  refine stepAt_of hd fun a w S r hH hI hr => ?_
  have hx' := hr x
  rw [he x (by simp [ho, Op.operands]), evF_fF, hx] at hx'
  have hy' := hr y
  rw [he y (by simp [ho, Op.operands]), evF_fF, hy] at hy'
  obtain ⟨b, arr, clock, h1, h2, h3, h4, h5, h6, h7⟩ := mp_keys (hI.obj k _ ((hO k (by simp)).trans hk))
  have hzv := ofVal_rel S w r zv
  rw [← q3] at hzv
  generalize hvx : a.eval x = vx at hx'
  generalize hvy : a.eval y = vy at hy'
  cases hy'
  cases hx' with
  | mh _ _ b' hb' =>
    rw [h1] at hb'
    cases hb'
    have hf := find_mp key es arr.toList 0 h3
    rw [mget_pos] at hg
    split at hg
    · cases hg
    · rename_i hlt
      rw [if_neg hlt] at hf
      refine fin_value hH hI rfl ?_ (got_rel hzv false c)
      simp [execOp, ho, hvx, hvy, Instr.lookup, run_underlying hm, MapKept.run_getObj_map h2, MapKept.run_checkKey hkt (show MapKept.IsKey .string (.string ⟨key.toArray⟩) from trivial), MapKept.run_findKey hkt hf, Result.andThen, zeroValue, typeInfo, q1, q2]

theorem mput_step {d : D} (hm : P.underlying ty = some (.map kt et)) (hkt : P.underlying kt = some .string) (ho : o.op = .mapUpdate ty x y z) (hx : ev fr x = .mh k) (hy : ev fr y = .s key) (hz : ev fr z = d) (h1d : d.one = true) (hk : look k ow = some (.mp es)) (hdst : o.dst = none) :
    ∀ F' O', (∀ y ∈ o.op.operands.toList, evF F' y = evF (fF fr) y) → (∀ j ∈ [k], O' j = fO ow j) → StepAt P X n o F' O' .any [(k, .mp (mput key d es))] := by
  intro F' O' he hO
  refine stepAt_of (by rw [hdst]; trivial) fun a w S r hH hI hr => ?_
  have hx' := hr x
  rw [he x (by simp [ho, Op.operands]), evF_fF, hx] at hx'
  have hy' := hr y
  rw [he y (by simp [ho, Op.operands]), evF_fF, hy] at hy'
  have hz' := hr z
  rw [he z (by simp [ho, Op.operands]), evF_fF, hz] at hz'
  have hkO := (hO k (by simp)).trans hk
  obtain ⟨b, arr, clock, h1, h2, h3, h4, h5, h6, h7⟩ := mp_keys (hI.obj k _ hkO)
  generalize hvx : a.eval x = vx at hx'
  generalize hvy : a.eval y = vy at hy'
  generalize hvz : a.eval z = vz at hz'
  cases hy'
  cases hx' with
  | mh _ _ b' hb' =>
    rw [h1] at hb'
    cases hb'
    have hf := find_mp key es arr.toList 0 h3
    rw [mput_pos]
    by_cases hlt : mpos key es < es.length
    · rw [if_pos hlt] at hf ⊢
      obtain ⟨hek, hev, heo⟩ := h5 _ hlt
      have hsz : mpos key es < arr.size := by omega
      have hj : arr[mpos key es]? = some (arr.getD (mpos key es) default) := by simp [Array.getD_eq_getD_getElem?, hsz]
      have hkey : (es.getD (mpos key es) ([], .any)).1 = key := mpos_key key es hlt
      rw [hkey] at hek
      have hk0 : MapKept.IsKey .string (.string ⟨key.toArray⟩) := trivial
      have hgm : ∀ j, (arr.modify (mpos key es) fun e => { e with key := .string ⟨key.toArray⟩, val := vz }).getD j default = if j = mpos key es then { arr.getD (mpos key es) default with key := .string ⟨key.toArray⟩, val := vz } else arr.getD j default := fun j => by
        simp only [Array.getD_eq_getD_getElem?, Array.getElem?_modify]
        by_cases h : j = mpos key es
        · subst h
          simp [hsz]
        · rw [if_neg h, if_neg (fun e => h e.symm)]
      obtain ⟨g1, g2, g3⟩ := setMp_ok (es2 := es.set (mpos key es) (key, d)) (arr2 := arr.modify (mpos key es) fun e => { e with key := .string ⟨key.toArray⟩, val := vz }) (clock2 := clock) hH hI hkO h1 h2 h7 (by simpa using h4)
        (fun j hj2 => by
          rw [hgm]
          by_cases h : j = mpos key es
          · subst h
            rw [if_pos rfl, List.getD_eq_getElem?_getD, List.getElem?_set_self hlt]
            exact ⟨rfl, hz', h1d⟩
          · rw [if_neg h, List.getD_eq_getElem?_getD, List.getElem?_set_ne (fun e => h e.symm), ← List.getD_eq_getElem?_getD]
            exact h5 j (by simpa using hj2))
        (by
          have hb : ∀ j, ((arr.modify (mpos key es) fun e => { e with key := .string ⟨key.toArray⟩, val := vz }).getD j default).born = (arr.getD j default).born := fun j => by
            rw [hgm]
            by_cases h : j = mpos key es
            · subst h
              rw [if_pos rfl]
            · rw [if_neg h]
          refine ⟨fun i j hij hj2 => ?_, fun i hi2 => ?_⟩
          · rw [hb, hb]
            exact h6.1 i j hij (by simpa using hj2)
          · rw [hb]
            exact h6.2 i (by simpa using hi2))
      refine ⟨undef, _, S, r, .inr ⟨?_, rfl⟩, .any .., g1, g2, fun _ _ h => h, g3, RhoLe.refl r⟩
      obtain ⟨e0, hj0, hek0⟩ : ∃ e0, arr[mpos key es]? = some e0 ∧ e0.key = .string ⟨key.toArray⟩ := ⟨_, hj, hek⟩
      clear hj hek hev hgm
      simp [execOp, ho, hvx, hvy, hvz, Instr.mapUpdate, run_underlying hm, MapKept.run_getObj_map h2, MapKept.run_checkKey hkt hk0, MapKept.run_findKey hkt hf, hj0, hek0, MapKept.run_keyThatStays hk0, MapKept.run_setObj_map _ h2, Result.andThen]
    · rw [if_neg hlt] at hf ⊢
      have hk0 : MapKept.IsKey .string (.string ⟨key.toArray⟩) := trivial
      have hgp : ∀ j, (arr.push ⟨.string ⟨key.toArray⟩, vz, clock⟩).getD j default = if j = arr.size then ⟨.string ⟨key.toArray⟩, vz, clock⟩ else arr.getD j default := fun j => by
        simp only [Array.getD_eq_getD_getElem?, Array.getElem?_push]
        by_cases h : j = arr.size
        · subst h
          simp
        · rw [if_neg h, if_neg h]
      obtain ⟨g1, g2, g3⟩ := setMp_ok (es2 := es ++ [(key, d)]) (arr2 := arr.push ⟨.string ⟨key.toArray⟩, vz, clock⟩) (clock2 := clock + 1) hH hI hkO h1 h2 h7 (by simp [h4])
        (fun j hj2 => by
          rw [hgp]
          by_cases h : j = arr.size
          · subst h
            rw [if_pos rfl, h4, List.getD_eq_getElem?_getD, List.getElem?_append_right (Nat.le_refl _)]
            simp only [Nat.sub_self]
            exact ⟨rfl, hz', h1d⟩
          · have hj3 : j < es.length := by
              simp only [List.length_append, List.length_cons, List.length_nil] at hj2
              omega
            rw [if_neg h, List.getD_eq_getElem?_getD, List.getElem?_append_left hj3, ← List.getD_eq_getElem?_getD]
            exact h5 j hj3)
        (by
          refine ⟨fun i j hij hj2 => ?_, fun i hi2 => ?_⟩
          · rw [hgp, hgp]
            have hj3 : j < arr.size + 1 := by simpa using hj2
            rw [if_neg (show ¬ i = arr.size by omega)]
            by_cases h : j = arr.size
            · rw [if_pos h]
              exact h6.2 i (by omega)
            · rw [if_neg h]
              exact h6.1 i j hij (by omega)
          · rw [hgp]
            have hi3 : i < arr.size + 1 := by simpa using hi2
            by_cases h : i = arr.size
            · rw [if_pos h]
              exact Nat.lt_succ_self _
            · rw [if_neg h]
              exact Nat.lt_succ_of_lt (h6.2 i (by omega)))
      refine ⟨undef, _, S, r, .inr ⟨?_, rfl⟩, .any .., g1, g2, fun _ _ h => h, g3, RhoLe.refl r⟩
      simp [execOp, ho, hvx, hvy, hvz, Instr.mapUpdate, run_underlying hm, MapKept.run_getObj_map h2, MapKept.run_checkKey hkt hk0, MapKept.run_findKey hkt hf, MapKept.run_setObj_map _ h2, Result.andThen]

theorem mclr_step (hm : P.underlying ty = some (.map kt et)) (ho : o.op = .call ⟨.builtin .clear, #[x], #[ty]⟩) (hx : ev fr x = .mh k) (hk : look k ow = some (.mp es)) (hd : dstOk o.dst n) :
    ∀ F' O', (∀ y ∈ o.op.operands.toList, evF F' y = evF (fF fr) y) → (∀ j ∈ [k], O' j = fO ow j) → StepAt P X n o F' O' (.tu []) [(k, .mp [])] := by
  intro F' O' he hO
  refine stepAt_of hd fun a w S r hH hI hr => ?_
  have hx' := hr x
  rw [he x (by simp [ho, Op.operands, Call.operands]), evF_fF, hx] at hx'
  have hkO := (hO k (by simp)).trans hk
  obtain ⟨b, arr, clock, h1, h2, h3, h4, h5, h6, h7⟩ := mp_keys (hI.obj k _ hkO)
  generalize hvx : a.eval x = vx at hx'
  cases hx' with
  | mh _ _ b' hb' =>
    rw [h1] at hb'
    cases hb'
    obtain ⟨g1, g2, g3⟩ := setMp_ok (es2 := []) (arr2 := #[]) (clock2 := clock) hH hI hkO h1 h2 h7 rfl (fun j hj => by simp at hj) ⟨fun i j _ h => by simp at h, fun i h => by simp at h⟩
    refine ⟨.tuple #[], _, S, r, .inl ?_, .tu _ _ _ rfl (fun j hj => by simp at hj), g1, g2, fun _ _ h => h, g3, RhoLe.refl r⟩
    simp [execOp, ho, resolve, invoke, builtin, hvx, Builtin.clear_, run_underlying hm, MapKept.run_getObj_map h2, MapKept.run_setObj_map _ h2, Result.andThen]

end

section
variable {X : Ctx} {n : Nat} {all rest : List Oper} {fr : Fr} {ow : Ow} {tr : List (List Nat × List Nat)} {K : Fr → Ow → List (List Nat × List Nat) → Prop}
variable {t k : Nat} {ty ty' kt et t2 : TypeId} {ps : String} {af : Array Edge} {x y z : Operand} {es : Ents} {key : List UInt8} {d : D} {c : Bool} {g u : Nat} {want : Bool}

set_option maxRecDepth 100000 in
/-- A new map. -/
theorem r_mnew (ht : look t ow = none) (hn : Nat.blt t n = true) (h : CT Tryd.prog X n all rest ((t, .mh t) :: fr) ((t, .mp []) :: ow) (tr ++ [([t], [t])]) K) :
    CT Tryd.prog X n all (⟨some t, .makeMap ty none, ty', ps, af, none⟩ :: rest) fr ow tr K :=
  CT.cons (e := ⟨.mh t, [t], [(t, .mp [])]⟩) (.plain rfl (mnew_step (o := ⟨some t, .makeMap ty none, ty', ps, af, none⟩) rfl ht (show t < n by simpa using hn))) (fF_cons ..) (fO_cons ..) h

set_option maxRecDepth 100000 in
/-- A key that is there. -/
theorem r_mhit (hm : Tryd.prog.underlying ty = some (.map kt et)) (hkt : Tryd.prog.underlying kt = some .string) (hx : ev fr x = .mh k) (hy : ev fr y = .s key) (hk : look k ow = some (.mp es)) (hg : mget key es = some d) (hn : Nat.blt t n = true)
    (h : CT Tryd.prog X n all rest ((t, gotD true d c) :: fr) ow (tr ++ [([k], [])]) K) : CT Tryd.prog X n all (⟨some t, .lookup ty x y c, ty', ps, af, none⟩ :: rest) fr ow tr K :=
  CT.cons (e := ⟨gotD true d c, [k], []⟩) (.plain rfl (mhit_step (o := ⟨some t, .lookup ty x y c, ty', ps, af, none⟩) hm hkt rfl hx hy hk hg (show t < n by simpa using hn))) (fF_cons ..) rfl h

set_option maxRecDepth 100000 in
/-- A key that is not there. -/
theorem r_mmiss (hm : Tryd.prog.underlying ty = some (.map kt et)) (hkt : Tryd.prog.underlying kt = some .string) (hz : B.zr et = some d) (hx : ev fr x = .mh k) (hy : ev fr y = .s key) (hk : look k ow = some (.mp es)) (hg : mget key es = none) (hn : Nat.blt t n = true)
    (h : CT Tryd.prog X n all rest ((t, gotD false d c) :: fr) ow (tr ++ [([k], [])]) K) : CT Tryd.prog X n all (⟨some t, .lookup ty x y c, ty', ps, af, none⟩ :: rest) fr ow tr K :=
  CT.cons (e := ⟨gotD false d c, [k], []⟩) (.plain rfl (mmiss_step (o := ⟨some t, .lookup ty x y c, ty', ps, af, none⟩) tb_eq hz hm hkt rfl hx hy hk hg (show t < n by simpa using hn))) (fF_cons ..) rfl h

set_option maxRecDepth 100000 in
/-- An entry written. -/
theorem r_mput (hm : Tryd.prog.underlying ty = some (.map kt et)) (hkt : Tryd.prog.underlying kt = some .string) (hx : ev fr x = .mh k) (hy : ev fr y = .s key) (hz : ev fr z = d) (h1 : d.one = true) (hk : look k ow = some (.mp es))
    (h : CT Tryd.prog X n all rest fr ((k, .mp (mput key d es)) :: ow) (tr ++ [([k], [k])]) K) : CT Tryd.prog X n all (⟨none, .mapUpdate ty x y z, ty', ps, af, none⟩ :: rest) fr ow tr K :=
  CT.cons (e := ⟨.any, [k], [(k, .mp (mput key d es))]⟩) (.plain rfl (mput_step (o := ⟨none, .mapUpdate ty x y z, ty', ps, af, none⟩) hm hkt rfl hx hy hz h1 hk rfl)) rfl (fO_cons ..) h

set_option maxRecDepth 100000 in
/-- All entries taken out. -/
theorem r_mclr (hm : Tryd.prog.underlying ty = some (.map kt et)) (hx : ev fr x = .mh k) (hk : look k ow = some (.mp es)) (hn : Nat.blt t n = true)
    (h : CT Tryd.prog X n all rest ((t, .tu []) :: fr) ((k, .mp []) :: ow) (tr ++ [([k], [k])]) K) : CT Tryd.prog X n all (⟨some t, .call ⟨.builtin .clear, #[x], #[ty]⟩, ty', ps, af, none⟩ :: rest) fr ow tr K :=
  CT.cons (e := ⟨.tu [], [k], [(k, .mp [])]⟩) (.plain rfl (mclr_step (o := ⟨some t, .call ⟨.builtin .clear, #[x], #[ty]⟩, ty', ps, af, none⟩) hm rfl hx hk (show t < n by simpa using hn))) (fF_cons ..) (fO_cons ..) h
end

end Go.Proofs.YtghdgjabpdfaoaaDoor.Flow

/- REQ: is gzip taken? The law of words. -/
namespace Go.Proofs.YtghdgjabpdfaoaaDoor.Flow
open Go

abbrev Fnd := List (List UInt8 × Int)
def iget (k : List UInt8) : Fnd → Option Int
  | [] => none
  | p :: r => if p.1 = k then some p.2 else iget k r
def mapI (es : Fnd) : Ents := es.map fun p => (p.1, .i .i64 p.2)
theorem mget_mapI (k : List UInt8) : ∀ es, mget k (mapI es) = (iget k es).map fun i => D.i .i64 i
  | [] => rfl
  | p :: r => by
    have ih := mget_mapI k r
    simp only [mapI] at ih
    simp only [mapI, List.map_cons, mget, iget]
    split
    · rfl
    · exact ih
theorem mput_mapI {k : List UInt8} (q : Int) : ∀ {es : Fnd}, iget k es = none → mput k (.i .i64 q) (mapI es) = mapI (es ++ [(k, q)])
  | [], _ => rfl
  | p :: r, h => by
    unfold iget at h
    split at h
    · cases h
    · rename_i hne
      have ih := mput_mapI q h
      simp only [mapI] at ih
      simp only [mapI, List.map_cons, List.cons_append, mput]
      rw [if_neg hne, ih]

theorem okM (ks : List Nat) (es : Fnd) : (Own.mp (mapI es)).okIn ks = true := by
  show (mapI es).all (fun p => p.2.okIn ks) = true
  rw [List.all_eq_true]
  intro p hp
  obtain ⟨q, _, rfl⟩ := List.mem_map.1 hp
  rfl
theorem okW {fr : Fr} {es : Fnd} (h : fr.all (fun x => x.2.okIn [15]) = true) : okAll [15] fr [(15, .mp (mapI es))] = true := by
  unfold okAll
  rw [h, List.all_cons, okM]
  rfl

def addV (es : Fnd) (s : List UInt8) : Fnd := if (elemV s).2.2 = true ∧ iget (elemV s).1 es = none then es ++ [((elemV s).1, (elemV s).2.1)] else es
def partsV (es : Fnd) (ps : List (List UInt8)) : Fnd := ps.foldl addV es
def valsV (vs : List (List UInt8)) : Fnd := vs.foldl (fun es v => partsV es (splitL v [44])) []
def accV (vs : List (List UInt8)) : Bool := match iget [103, 122, 105, 112] (valsV vs) with
  | some q => decide (0 < q)
  | none => decide (0 < (iget [42] (valsV vs)).getD 0)

theorem parts_succ {es : Fnd} {ps : List (List UInt8)} {j : Nat} (h : j < ps.length) : partsV es (ps.take (j + 1)) = addV (partsV es (ps.take j)) (ps.getD j []) := by
  unfold partsV
  rw [List.take_add_one, List.foldl_append]
  have : ps[j]? = some (ps.getD j []) := by simp [List.getD_eq_getElem?_getD, h]
  rw [this]
  rfl
theorem vals_succ {vs : List (List UInt8)} {i : Nat} (h : i < vs.length) : valsV (vs.take (i + 1)) = partsV (valsV (vs.take i)) (splitL (vs.getD i []) [44]) := by
  unfold valsV
  rw [List.take_add_one, List.foldl_append]
  have : vs[i]? = some (vs.getD i []) := by simp [List.getD_eq_getElem?_getD, h]
  rw [this]
  rfl

theorem und_found : Tryd.prog.underlying 72 = some (.map 9 3) := by kernel_rfl

set_option maxRecDepth 100000 in
set_option maxHeartbeats 1000000 in
theorem accepts_ctr (vs : List (List UInt8)) (n : Nat) (f : Nat → List D) (hn : n = vs.length) (hf : ∀ i, i < vs.length → f i = [.s (vs.getD i [])]) (hl : vs.length ≤ 3000) (hv : ∀ i, (vs.getD i []).length ≤ 100000) (hp : ∀ i j, ((splitL (vs.getD i []) [44]).getD j []).length ≤ 100000) :
    Ctr Tryd.prog 36 [.sl 1 n f] (.b (accV vs)) := by
  subst hn
  refine Ctr.weak1 (a' := .sl 1 vs.length (wxF vs)) ?_ (.sl _ _ _ _ (fun i hi => ⟨by rw [hf i hi]; rfl, rfl⟩) (fun i j hi hj => .of_eq (by rw [hf i hi]; rfl)))
  refine r_fun Tryd.func36 rfl Tryd.ntmps36 Tryd.results36 rfl rfl fun X hL hX => ?_
  repeat' (first
    | refine r_mnew rfl rfl ?_
    | with_reducible (first | refine t_seq ?_ | refine t_region ?_ | refine c_nil ?_ | refine n_then ?_ | refine t_ret ?_ | refine t_skip ?_ | refine t_exit ?_ | refine t_block ?_ | refine n_block ?_ | refine e_then ?_ | refine x_then ?_ | refine x_block ?_ | refine t_draw ?_)
    | refine r_val rfl rfl True.intro ?_ | refine r_gskip rfl rfl rfl ?_ | refine r_gskip2 rfl rfl rfl ?_ | refine r_gval rfl rfl rfl rfl True.intro ?_
    | refine t_true rfl ?_ | refine t_false rfl ?_
    | ((first | refine t_cond_d rfl ?_ ?_ | refine t_cond_i rfl ?_ ?_ | refine t_cond_j rfl ?_ ?_ | refine t_cond_s rfl ?_ ?_ | refine t_cond_n rfl ?_ ?_ | refine t_cond rfl ?_ ?_ | refine c_split_d rfl rfl ?_ ?_ | refine c_split_i rfl rfl ?_ ?_ | refine c_split_j rfl rfl ?_ ?_ | refine c_split_s rfl rfl ?_ ?_ | refine c_split_n rfl rfl ?_ ?_) <;> intro <;> try (first | contradiction | (exfalso; omega)))
    | ((first | refine r_val rfl rfl ?_ ?_ | refine r_gval rfl rfl rfl rfl ?_ ?_ | refine r_obj rfl rfl ?_ ?_ | refine r_sto rfl ?_ ?_ | refine r_gobj rfl rfl rfl rfl ?_ ?_); focus (first | omega | exact Nat.le_of_ble_eq_true rfl | (simp_all; done) | (simp_all; omega) | ((repeat' refine And.intro ?_ ?_) <;> first | omega | rfl | exact Nat.le_refl _ | exact Nat.le_of_ble_eq_true rfl | exact bytesF_one _ | (simp_all; done) | (simp_all; omega))))
    | refine e_hit rfl ?_ | refine e_miss rfl ?_
    | with_reducible refine ⟨by kernel_rfl, ?_⟩ | ((with_reducible refine c_grd ?_); (fail_if_success (refine c_lit true rfl rfl rfl ?_)); (fail_if_success (refine c_lit false rfl rfl rfl ?_)); refine c_split rfl rfl (fun _ => ?_) (fun _ => ?_)))
  refine T.loop hL (fun i : Nat => [(3, .mh 15), (16, .sl 1 vs.length (wxF vs)), (17, .i .i64 vs.length), (18, .i .i64 i)]) (fun i => [(15, .mp (mapI (valsV (vs.take i))))]) (fun i => i ≤ vs.length) (fun i => vs.length - i) 0 (Nat.zero_le _)
    ⟨⟨rfl, rfl, rfl, rfl, trivial⟩, ⟨rfl, trivial⟩, okW rfl, fun q hq => by rw [hX] at hq; simp at hq⟩ ?_
  intro i hi
  by_cases hil : i < vs.length
  · have hnat : (i : Int).toNat = i := Int.toNat_natCast i
    have hvi := hv (i : Int).toNat
    have hsl := splitL_len (vs.getD (i : Int).toNat []) [44] (by decide)
    have hcs := w_split (vs.getD (i : Int).toNat []) [44] (by omega) (by decide)
    have hpi := hp (i : Int).toNat
    have hvs := vals_succ hil
    rw [← hnat] at hvs
    generalize hps : splitL (vs.getD (i : Int).toNat []) [44] = ps at *
    generalize hes : valsV (vs.take i) = es0 at *
    have hes' : valsV (vs.take (i : Int).toNat) = es0 := by rw [hnat]; exact hes
    rw [hes'] at hvs
    repeat' (first
      | refine r_call (f := 26) rfl rfl Tryd.call26 rfl hcs ?_
      | with_reducible (first | refine t_seq ?_ | refine t_region ?_ | refine c_nil ?_ | refine n_then ?_ | refine t_ret ?_ | refine t_skip ?_ | refine t_exit ?_ | refine t_block ?_ | refine n_block ?_ | refine e_then ?_ | refine x_then ?_ | refine x_block ?_ | refine t_draw ?_)
      | refine r_val rfl rfl True.intro ?_ | refine r_gskip rfl rfl rfl ?_ | refine r_gskip2 rfl rfl rfl ?_ | refine r_gval rfl rfl rfl rfl True.intro ?_
      | refine t_true rfl ?_ | refine t_false rfl ?_
      | ((first | refine t_cond_d rfl ?_ ?_ | refine t_cond_i rfl ?_ ?_ | refine t_cond_j rfl ?_ ?_ | refine t_cond_s rfl ?_ ?_ | refine t_cond_n rfl ?_ ?_ | refine t_cond rfl ?_ ?_ | refine c_split_d rfl rfl ?_ ?_ | refine c_split_i rfl rfl ?_ ?_ | refine c_split_j rfl rfl ?_ ?_ | refine c_split_s rfl rfl ?_ ?_ | refine c_split_n rfl rfl ?_ ?_) <;> intro <;> try (first | contradiction | (exfalso; omega)))
      | ((first | refine r_val rfl rfl ?_ ?_ | refine r_gval rfl rfl rfl rfl ?_ ?_ | refine r_obj rfl rfl ?_ ?_ | refine r_sto rfl ?_ ?_ | refine r_gobj rfl rfl rfl rfl ?_ ?_); focus (first | omega | exact Nat.le_of_ble_eq_true rfl | (simp_all; done) | (simp_all; omega) | ((repeat' refine And.intro ?_ ?_) <;> first | omega | rfl | exact Nat.le_refl _ | exact Nat.le_of_ble_eq_true rfl | exact bytesF_one _ | (simp_all; done) | (simp_all; omega))))
      | refine e_hit rfl ?_ | refine e_miss rfl ?_
      | with_reducible refine ⟨by kernel_rfl, ?_⟩ | ((with_reducible refine c_grd ?_); (fail_if_success (refine c_lit true rfl rfl rfl ?_)); (fail_if_success (refine c_lit false rfl rfl rfl ?_)); refine c_split rfl rfl (fun _ => ?_) (fun _ => ?_)))
    refine T.loop hL (fun j : Nat => [(3, .mh 15), (16, .sl 1 vs.length (wxF vs)), (17, .i .i64 vs.length), (18, .i .i64 i), (23, .sl 1 ps.length (wxF ps)), (24, .i .i64 ps.length), (25, .i .i64 j)]) (fun j => [(15, .mp (mapI (partsV es0 (ps.take j))))]) (fun j => j ≤ ps.length) (fun j => ps.length - j) 0 (Nat.zero_le _)
      ⟨⟨rfl, rfl, rfl, rfl, rfl, rfl, rfl, trivial⟩, ⟨rfl, trivial⟩, okW rfl, fun q hq => by rw [hX] at hq; simp at hq⟩ ?_
    intro j hj
    by_cases hjl : j < ps.length
    · have hnj : (j : Int).toNat = j := Int.toNat_natCast j
      have hce := element_ctr (ps.getD (j : Int).toNat []) (hpi _)
      have hsu := parts_succ (es := es0) hjl
      rw [← hnj] at hsu
      unfold elemD at hce
      unfold addV at hsu
      have hpj : ps.take (j : Int).toNat = ps.take j := by rw [hnj]
      rw [hpj] at hsu
      generalize hx : elemV (ps.getD (j : Int).toNat []) = x at *
      obtain ⟨nm, q, ok⟩ := x
      dsimp only at hce hsu
      generalize hpe : partsV es0 (ps.take j) = es at *
      have hfin : partsV es0 (ps.take (j + 1)) = if ok = true ∧ iget nm es = none then es ++ [(nm, q)] else es := by rw [← hsu, hnj]
      cases hg : iget nm es with
      | none =>
        have hm : mget nm (mapI es) = none := by rw [mget_mapI, hg]; rfl
        cases ok with
        | true =>
          rw [if_pos ⟨rfl, hg⟩] at hfin
          repeat' (first
            | refine r_call (f := 62) rfl rfl Tryd.call62 rfl hce ?_ | refine r_mmiss und_found Tryd.underlying9 rfl rfl rfl rfl hm rfl ?_ | refine r_mput und_found Tryd.underlying9 rfl rfl rfl rfl rfl ?_
            | with_reducible (first | refine t_seq ?_ | refine t_region ?_ | refine c_nil ?_ | refine n_then ?_ | refine t_ret ?_ | refine t_skip ?_ | refine t_exit ?_ | refine t_block ?_ | refine n_block ?_ | refine e_then ?_ | refine x_then ?_ | refine x_block ?_ | refine t_draw ?_)
            | refine r_val rfl rfl True.intro ?_ | refine r_gskip rfl rfl rfl ?_ | refine r_gskip2 rfl rfl rfl ?_ | refine r_gval rfl rfl rfl rfl True.intro ?_
            | refine t_true rfl ?_ | refine t_false rfl ?_
            | ((first | refine t_cond_d rfl ?_ ?_ | refine t_cond_i rfl ?_ ?_ | refine t_cond_j rfl ?_ ?_ | refine t_cond_s rfl ?_ ?_ | refine t_cond_n rfl ?_ ?_ | refine t_cond rfl ?_ ?_ | refine c_split_d rfl rfl ?_ ?_ | refine c_split_i rfl rfl ?_ ?_ | refine c_split_j rfl rfl ?_ ?_ | refine c_split_s rfl rfl ?_ ?_ | refine c_split_n rfl rfl ?_ ?_) <;> intro <;> try (first | contradiction | (exfalso; omega)))
            | ((first | refine r_val rfl rfl ?_ ?_ | refine r_gval rfl rfl rfl rfl ?_ ?_ | refine r_obj rfl rfl ?_ ?_ | refine r_sto rfl ?_ ?_ | refine r_gobj rfl rfl rfl rfl ?_ ?_); focus (first | omega | exact Nat.le_of_ble_eq_true rfl | (simp_all; done) | (simp_all; omega) | ((repeat' refine And.intro ?_ ?_) <;> first | omega | rfl | exact Nat.le_refl _ | exact Nat.le_of_ble_eq_true rfl | exact bytesF_one _ | (simp_all; done) | (simp_all; omega))))
            | refine e_hit rfl ?_ | refine e_miss rfl ?_
            | with_reducible refine ⟨by kernel_rfl, ?_⟩ | ((with_reducible refine c_grd ?_); (fail_if_success (refine c_lit true rfl rfl rfl ?_)); (fail_if_success (refine c_lit false rfl rfl rfl ?_)); refine c_split rfl rfl (fun _ => ?_) (fun _ => ?_)))
          all_goals exact ⟨j + 1, by omega, by omega, ⟨rfl, rfl, rfl, rfl, rfl, rfl, congrArg (D.i .i64) (by omega), trivial⟩, ⟨congrArg (fun e => some (Own.mp e)) (by rw [hfin, ← mput_mapI q hg]; rfl), trivial⟩, okW rfl, fun q hq => by rw [hX] at hq; simp at hq⟩
        | false =>
          rw [if_neg (by simp)] at hfin
          repeat' (first
            | refine r_call (f := 62) rfl rfl Tryd.call62 rfl hce ?_ | refine r_mmiss und_found Tryd.underlying9 rfl rfl rfl rfl hm rfl ?_
            | with_reducible (first | refine t_seq ?_ | refine t_region ?_ | refine c_nil ?_ | refine n_then ?_ | refine t_ret ?_ | refine t_skip ?_ | refine t_exit ?_ | refine t_block ?_ | refine n_block ?_ | refine e_then ?_ | refine x_then ?_ | refine x_block ?_ | refine t_draw ?_)
            | refine r_val rfl rfl True.intro ?_ | refine r_gskip rfl rfl rfl ?_ | refine r_gskip2 rfl rfl rfl ?_ | refine r_gval rfl rfl rfl rfl True.intro ?_
            | refine t_true rfl ?_ | refine t_false rfl ?_
            | ((first | refine t_cond_d rfl ?_ ?_ | refine t_cond_i rfl ?_ ?_ | refine t_cond_j rfl ?_ ?_ | refine t_cond_s rfl ?_ ?_ | refine t_cond_n rfl ?_ ?_ | refine t_cond rfl ?_ ?_ | refine c_split_d rfl rfl ?_ ?_ | refine c_split_i rfl rfl ?_ ?_ | refine c_split_j rfl rfl ?_ ?_ | refine c_split_s rfl rfl ?_ ?_ | refine c_split_n rfl rfl ?_ ?_) <;> intro <;> try (first | contradiction | (exfalso; omega)))
            | ((first | refine r_val rfl rfl ?_ ?_ | refine r_gval rfl rfl rfl rfl ?_ ?_ | refine r_obj rfl rfl ?_ ?_ | refine r_sto rfl ?_ ?_ | refine r_gobj rfl rfl rfl rfl ?_ ?_); focus (first | omega | exact Nat.le_of_ble_eq_true rfl | (simp_all; done) | (simp_all; omega) | ((repeat' refine And.intro ?_ ?_) <;> first | omega | rfl | exact Nat.le_refl _ | exact Nat.le_of_ble_eq_true rfl | exact bytesF_one _ | (simp_all; done) | (simp_all; omega))))
            | refine e_hit rfl ?_ | refine e_miss rfl ?_
            | with_reducible refine ⟨by kernel_rfl, ?_⟩ | ((with_reducible refine c_grd ?_); (fail_if_success (refine c_lit true rfl rfl rfl ?_)); (fail_if_success (refine c_lit false rfl rfl rfl ?_)); refine c_split rfl rfl (fun _ => ?_) (fun _ => ?_)))
          all_goals exact ⟨j + 1, by omega, by omega, ⟨rfl, rfl, rfl, rfl, rfl, rfl, congrArg (D.i .i64) (by omega), trivial⟩, ⟨by rw [hfin]; rfl, trivial⟩, okW rfl, fun q hq => by rw [hX] at hq; simp at hq⟩
      | some q0 =>
        have hm : mget nm (mapI es) = some (.i .i64 q0) := by rw [mget_mapI, hg]; rfl
        rw [if_neg (by rw [hg]; simp)] at hfin
        cases ok with
        | true =>
          repeat' (first
            | refine r_call (f := 62) rfl rfl Tryd.call62 rfl hce ?_ | refine r_mhit und_found Tryd.underlying9 rfl rfl rfl hm rfl ?_
            | with_reducible (first | refine t_seq ?_ | refine t_region ?_ | refine c_nil ?_ | refine n_then ?_ | refine t_ret ?_ | refine t_skip ?_ | refine t_exit ?_ | refine t_block ?_ | refine n_block ?_ | refine e_then ?_ | refine x_then ?_ | refine x_block ?_ | refine t_draw ?_)
            | refine r_val rfl rfl True.intro ?_ | refine r_gskip rfl rfl rfl ?_ | refine r_gskip2 rfl rfl rfl ?_ | refine r_gval rfl rfl rfl rfl True.intro ?_
            | refine t_true rfl ?_ | refine t_false rfl ?_
            | ((first | refine t_cond_d rfl ?_ ?_ | refine t_cond_i rfl ?_ ?_ | refine t_cond_j rfl ?_ ?_ | refine t_cond_s rfl ?_ ?_ | refine t_cond_n rfl ?_ ?_ | refine t_cond rfl ?_ ?_ | refine c_split_d rfl rfl ?_ ?_ | refine c_split_i rfl rfl ?_ ?_ | refine c_split_j rfl rfl ?_ ?_ | refine c_split_s rfl rfl ?_ ?_ | refine c_split_n rfl rfl ?_ ?_) <;> intro <;> try (first | contradiction | (exfalso; omega)))
            | ((first | refine r_val rfl rfl ?_ ?_ | refine r_gval rfl rfl rfl rfl ?_ ?_ | refine r_obj rfl rfl ?_ ?_ | refine r_sto rfl ?_ ?_ | refine r_gobj rfl rfl rfl rfl ?_ ?_); focus (first | omega | exact Nat.le_of_ble_eq_true rfl | (simp_all; done) | (simp_all; omega) | ((repeat' refine And.intro ?_ ?_) <;> first | omega | rfl | exact Nat.le_refl _ | exact Nat.le_of_ble_eq_true rfl | exact bytesF_one _ | (simp_all; done) | (simp_all; omega))))
            | refine e_hit rfl ?_ | refine e_miss rfl ?_
            | with_reducible refine ⟨by kernel_rfl, ?_⟩ | ((with_reducible refine c_grd ?_); (fail_if_success (refine c_lit true rfl rfl rfl ?_)); (fail_if_success (refine c_lit false rfl rfl rfl ?_)); refine c_split rfl rfl (fun _ => ?_) (fun _ => ?_)))
          all_goals exact ⟨j + 1, by omega, by omega, ⟨rfl, rfl, rfl, rfl, rfl, rfl, congrArg (D.i .i64) (by omega), trivial⟩, ⟨by rw [hfin]; rfl, trivial⟩, okW rfl, fun q hq => by rw [hX] at hq; simp at hq⟩
        | false =>
          repeat' (first
            | refine r_call (f := 62) rfl rfl Tryd.call62 rfl hce ?_ | refine r_mhit und_found Tryd.underlying9 rfl rfl rfl hm rfl ?_
            | with_reducible (first | refine t_seq ?_ | refine t_region ?_ | refine c_nil ?_ | refine n_then ?_ | refine t_ret ?_ | refine t_skip ?_ | refine t_exit ?_ | refine t_block ?_ | refine n_block ?_ | refine e_then ?_ | refine x_then ?_ | refine x_block ?_ | refine t_draw ?_)
            | refine r_val rfl rfl True.intro ?_ | refine r_gskip rfl rfl rfl ?_ | refine r_gskip2 rfl rfl rfl ?_ | refine r_gval rfl rfl rfl rfl True.intro ?_
            | refine t_true rfl ?_ | refine t_false rfl ?_
            | ((first | refine t_cond_d rfl ?_ ?_ | refine t_cond_i rfl ?_ ?_ | refine t_cond_j rfl ?_ ?_ | refine t_cond_s rfl ?_ ?_ | refine t_cond_n rfl ?_ ?_ | refine t_cond rfl ?_ ?_ | refine c_split_d rfl rfl ?_ ?_ | refine c_split_i rfl rfl ?_ ?_ | refine c_split_j rfl rfl ?_ ?_ | refine c_split_s rfl rfl ?_ ?_ | refine c_split_n rfl rfl ?_ ?_) <;> intro <;> try (first | contradiction | (exfalso; omega)))
            | ((first | refine r_val rfl rfl ?_ ?_ | refine r_gval rfl rfl rfl rfl ?_ ?_ | refine r_obj rfl rfl ?_ ?_ | refine r_sto rfl ?_ ?_ | refine r_gobj rfl rfl rfl rfl ?_ ?_); focus (first | omega | exact Nat.le_of_ble_eq_true rfl | (simp_all; done) | (simp_all; omega) | ((repeat' refine And.intro ?_ ?_) <;> first | omega | rfl | exact Nat.le_refl _ | exact Nat.le_of_ble_eq_true rfl | exact bytesF_one _ | (simp_all; done) | (simp_all; omega))))
            | refine e_hit rfl ?_ | refine e_miss rfl ?_
            | with_reducible refine ⟨by kernel_rfl, ?_⟩ | ((with_reducible refine c_grd ?_); (fail_if_success (refine c_lit true rfl rfl rfl ?_)); (fail_if_success (refine c_lit false rfl rfl rfl ?_)); refine c_split rfl rfl (fun _ => ?_) (fun _ => ?_)))
          all_goals exact ⟨j + 1, by omega, by omega, ⟨rfl, rfl, rfl, rfl, rfl, rfl, congrArg (D.i .i64) (by omega), trivial⟩, ⟨by rw [hfin]; rfl, trivial⟩, okW rfl, fun q hq => by rw [hX] at hq; simp at hq⟩
    · have : j = ps.length := by omega
      subst this
      have hfin : valsV (vs.take (i + 1)) = partsV es0 (ps.take ps.length) := by rw [List.take_length, ← hvs, hnat]
      repeat' (first
        | with_reducible (first | refine t_seq ?_ | refine t_region ?_ | refine c_nil ?_ | refine n_then ?_ | refine t_ret ?_ | refine t_skip ?_ | refine t_exit ?_ | refine t_block ?_ | refine n_block ?_ | refine e_then ?_ | refine x_then ?_ | refine x_block ?_ | refine t_draw ?_)
        | refine r_val rfl rfl True.intro ?_ | refine r_gskip rfl rfl rfl ?_ | refine r_gskip2 rfl rfl rfl ?_ | refine r_gval rfl rfl rfl rfl True.intro ?_
        | refine t_true rfl ?_ | refine t_false rfl ?_
        | ((first | refine t_cond_d rfl ?_ ?_ | refine t_cond_i rfl ?_ ?_ | refine t_cond_j rfl ?_ ?_ | refine t_cond_s rfl ?_ ?_ | refine t_cond_n rfl ?_ ?_ | refine t_cond rfl ?_ ?_ | refine c_split_d rfl rfl ?_ ?_ | refine c_split_i rfl rfl ?_ ?_ | refine c_split_j rfl rfl ?_ ?_ | refine c_split_s rfl rfl ?_ ?_ | refine c_split_n rfl rfl ?_ ?_) <;> intro <;> try (first | contradiction | (exfalso; omega)))
        | ((first | refine r_val rfl rfl ?_ ?_ | refine r_gval rfl rfl rfl rfl ?_ ?_ | refine r_obj rfl rfl ?_ ?_ | refine r_sto rfl ?_ ?_ | refine r_gobj rfl rfl rfl rfl ?_ ?_); focus (first | omega | exact Nat.le_of_ble_eq_true rfl | (simp_all; done) | (simp_all; omega) | ((repeat' refine And.intro ?_ ?_) <;> first | omega | rfl | exact Nat.le_refl _ | exact Nat.le_of_ble_eq_true rfl | exact bytesF_one _ | (simp_all; done) | (simp_all; omega))))
        | refine e_hit rfl ?_ | refine e_miss rfl ?_
        | with_reducible refine ⟨by kernel_rfl, ?_⟩ | ((with_reducible refine c_grd ?_); (fail_if_success (refine c_lit true rfl rfl rfl ?_)); (fail_if_success (refine c_lit false rfl rfl rfl ?_)); refine c_split rfl rfl (fun _ => ?_) (fun _ => ?_)))
      all_goals exact ⟨i + 1, by omega, by omega, ⟨rfl, rfl, rfl, congrArg (D.i .i64) (by omega), trivial⟩, ⟨by rw [hfin]; rfl, trivial⟩, okW rfl, fun q hq => by rw [hX] at hq; simp at hq⟩
  · have : i = vs.length := by omega
    subst this
    unfold accV
    rw [List.take_length]
    generalize valsV vs = es
    cases hg : iget [103, 122, 105, 112] es with
    | some q =>
      have hm : mget [103, 122, 105, 112] (mapI es) = some (.i .i64 q) := by rw [mget_mapI, hg]; rfl
      repeat' (first
        | refine r_mhit (key := [103, 122, 105, 112]) und_found Tryd.underlying9 rfl rfl rfl hm rfl ?_
        | with_reducible (first | refine t_seq ?_ | refine t_region ?_ | refine c_nil ?_ | refine n_then ?_ | refine t_ret ?_ | refine t_skip ?_ | refine t_exit ?_ | refine t_block ?_ | refine n_block ?_ | refine e_then ?_ | refine x_then ?_ | refine x_block ?_ | refine t_draw ?_)
        | refine r_val rfl rfl True.intro ?_ | refine r_gskip rfl rfl rfl ?_ | refine r_gskip2 rfl rfl rfl ?_ | refine r_gval rfl rfl rfl rfl True.intro ?_
        | refine t_true rfl ?_ | refine t_false rfl ?_
        | ((first | refine t_cond_d rfl ?_ ?_ | refine t_cond_i rfl ?_ ?_ | refine t_cond_j rfl ?_ ?_ | refine t_cond_s rfl ?_ ?_ | refine t_cond_n rfl ?_ ?_ | refine t_cond rfl ?_ ?_ | refine c_split_d rfl rfl ?_ ?_ | refine c_split_i rfl rfl ?_ ?_ | refine c_split_j rfl rfl ?_ ?_ | refine c_split_s rfl rfl ?_ ?_ | refine c_split_n rfl rfl ?_ ?_) <;> intro <;> try (first | contradiction | (exfalso; omega)))
        | ((first | refine r_val rfl rfl ?_ ?_ | refine r_gval rfl rfl rfl rfl ?_ ?_ | refine r_obj rfl rfl ?_ ?_ | refine r_sto rfl ?_ ?_ | refine r_gobj rfl rfl rfl rfl ?_ ?_); focus (first | omega | exact Nat.le_of_ble_eq_true rfl | (simp_all; done) | (simp_all; omega) | ((repeat' refine And.intro ?_ ?_) <;> first | omega | rfl | exact Nat.le_refl _ | exact Nat.le_of_ble_eq_true rfl | exact bytesF_one _ | (simp_all; done) | (simp_all; omega))))
        | refine e_hit rfl ?_ | refine e_miss rfl ?_
        | with_reducible refine ⟨by kernel_rfl, ?_⟩ | refine x_end rfl ?_ | refine n_end rfl ?_ | ((with_reducible refine c_grd ?_); (fail_if_success (refine c_lit true rfl rfl rfl ?_)); (fail_if_success (refine c_lit false rfl rfl rfl ?_)); refine c_split rfl rfl (fun _ => ?_) (fun _ => ?_)))
      all_goals rfl
    | none =>
      have hm : mget [103, 122, 105, 112] (mapI es) = none := by rw [mget_mapI, hg]; rfl
      cases hg2 : iget [42] es with
      | some q =>
        have hm2 : mget [42] (mapI es) = some (.i .i64 q) := by rw [mget_mapI, hg2]; rfl
        repeat' (first
          | refine r_mmiss (key := [103, 122, 105, 112]) und_found Tryd.underlying9 rfl rfl rfl rfl hm rfl ?_ | refine r_mhit (key := [42]) und_found Tryd.underlying9 rfl rfl rfl hm2 rfl ?_
          | with_reducible (first | refine t_seq ?_ | refine t_region ?_ | refine c_nil ?_ | refine n_then ?_ | refine t_ret ?_ | refine t_skip ?_ | refine t_exit ?_ | refine t_block ?_ | refine n_block ?_ | refine e_then ?_ | refine x_then ?_ | refine x_block ?_ | refine t_draw ?_)
          | refine r_val rfl rfl True.intro ?_ | refine r_gskip rfl rfl rfl ?_ | refine r_gskip2 rfl rfl rfl ?_ | refine r_gval rfl rfl rfl rfl True.intro ?_
          | refine t_true rfl ?_ | refine t_false rfl ?_
          | ((first | refine t_cond_d rfl ?_ ?_ | refine t_cond_i rfl ?_ ?_ | refine t_cond_j rfl ?_ ?_ | refine t_cond_s rfl ?_ ?_ | refine t_cond_n rfl ?_ ?_ | refine t_cond rfl ?_ ?_ | refine c_split_d rfl rfl ?_ ?_ | refine c_split_i rfl rfl ?_ ?_ | refine c_split_j rfl rfl ?_ ?_ | refine c_split_s rfl rfl ?_ ?_ | refine c_split_n rfl rfl ?_ ?_) <;> intro <;> try (first | contradiction | (exfalso; omega)))
          | ((first | refine r_val rfl rfl ?_ ?_ | refine r_gval rfl rfl rfl rfl ?_ ?_ | refine r_obj rfl rfl ?_ ?_ | refine r_sto rfl ?_ ?_ | refine r_gobj rfl rfl rfl rfl ?_ ?_); focus (first | omega | exact Nat.le_of_ble_eq_true rfl | (simp_all; done) | (simp_all; omega) | ((repeat' refine And.intro ?_ ?_) <;> first | omega | rfl | exact Nat.le_refl _ | exact Nat.le_of_ble_eq_true rfl | exact bytesF_one _ | (simp_all; done) | (simp_all; omega))))
          | refine e_hit rfl ?_ | refine e_miss rfl ?_
          | with_reducible refine ⟨by kernel_rfl, ?_⟩ | refine x_end rfl ?_ | refine n_end rfl ?_ | ((with_reducible refine c_grd ?_); (fail_if_success (refine c_lit true rfl rfl rfl ?_)); (fail_if_success (refine c_lit false rfl rfl rfl ?_)); refine c_split rfl rfl (fun _ => ?_) (fun _ => ?_)))
        all_goals rfl
      | none =>
        have hm2 : mget [42] (mapI es) = none := by rw [mget_mapI, hg2]; rfl
        repeat' (first
          | refine r_mmiss (key := [103, 122, 105, 112]) und_found Tryd.underlying9 rfl rfl rfl rfl hm rfl ?_ | refine r_mmiss (key := [42]) und_found Tryd.underlying9 rfl rfl rfl rfl hm2 rfl ?_
          | with_reducible (first | refine t_seq ?_ | refine t_region ?_ | refine c_nil ?_ | refine n_then ?_ | refine t_ret ?_ | refine t_skip ?_ | refine t_exit ?_ | refine t_block ?_ | refine n_block ?_ | refine e_then ?_ | refine x_then ?_ | refine x_block ?_ | refine t_draw ?_)
          | refine r_val rfl rfl True.intro ?_ | refine r_gskip rfl rfl rfl ?_ | refine r_gskip2 rfl rfl rfl ?_ | refine r_gval rfl rfl rfl rfl True.intro ?_
          | refine t_true rfl ?_ | refine t_false rfl ?_
          | ((first | refine t_cond_d rfl ?_ ?_ | refine t_cond_i rfl ?_ ?_ | refine t_cond_j rfl ?_ ?_ | refine t_cond_s rfl ?_ ?_ | refine t_cond_n rfl ?_ ?_ | refine t_cond rfl ?_ ?_ | refine c_split_d rfl rfl ?_ ?_ | refine c_split_i rfl rfl ?_ ?_ | refine c_split_j rfl rfl ?_ ?_ | refine c_split_s rfl rfl ?_ ?_ | refine c_split_n rfl rfl ?_ ?_) <;> intro <;> try (first | contradiction | (exfalso; omega)))
          | ((first | refine r_val rfl rfl ?_ ?_ | refine r_gval rfl rfl rfl rfl ?_ ?_ | refine r_obj rfl rfl ?_ ?_ | refine r_sto rfl ?_ ?_ | refine r_gobj rfl rfl rfl rfl ?_ ?_); focus (first | omega | exact Nat.le_of_ble_eq_true rfl | (simp_all; done) | (simp_all; omega) | ((repeat' refine And.intro ?_ ?_) <;> first | omega | rfl | exact Nat.le_refl _ | exact Nat.le_of_ble_eq_true rfl | exact bytesF_one _ | (simp_all; done) | (simp_all; omega))))
          | refine e_hit rfl ?_ | refine e_miss rfl ?_
          | with_reducible refine ⟨by kernel_rfl, ?_⟩ | refine x_end rfl ?_ | refine n_end rfl ?_ | ((with_reducible refine c_grd ?_); (fail_if_success (refine c_lit true rfl rfl rfl ?_)); (fail_if_success (refine c_lit false rfl rfl rfl ?_)); refine c_split rfl rfl (fun _ => ?_) (fun _ => ?_)))
        all_goals rfl

end Go.Proofs.YtghdgjabpdfaoaaDoor.Flow
