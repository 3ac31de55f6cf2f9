/- The texts Y5, Y6, Y7, Y8, Y9, Ya, Yb, one behind the other. -/
import Derived.Test.YtghdgjabpdfaoaaDoorO6
import Derived.Lib.SplitLaws
/- REQ: the first line, headers: the program's. -/
namespace Go.Proofs.YtghdgjabpdfaoaaDoor.Flow
open Go

theorem allT {p : UInt8 → Bool} {s : List UInt8} {i : Nat} (h : i < s.length) : (s.take (i + 1)).all p = ((s.take i).all p && p (s.getD i 0)) := by
  rw [List.take_add_one, List.all_append]
  congr 1
  have : s[i]? = some (s.getD i 0) := by simp [List.getD_eq_getElem?_getD, h]
  rw [this]
  simp
theorem allF {p : UInt8 → Bool} {s : List UInt8} {i : Nat} (h : i < s.length) (hc : p (s.getD i 0) = false) : s.all p = false := by
  rw [List.all_eq_false]
  refine ⟨s.getD i 0, ?_, ?_⟩
  · rw [List.getD_eq_getElem?_getD, List.getElem?_eq_getElem h, Option.getD_some]
    exact List.getElem_mem h
  · rw [hc]
    exact Bool.false_ne_true
theorem atN (s : List UInt8) (i : Nat) : at' s i = ((s.getD i 0).toNat : Int) := by simp [at']

def http : List UInt8 := [72, 84, 84, 80, 47, 49, 46, 49]
def tgC (c : UInt8) : Bool := decide (33 ≤ c.toNat ∧ c.toNat ≤ 126)
def vaC (c : UInt8) : Bool := decide ((32 ≤ c.toNat ∨ c.toNat = 9) ∧ c.toNat ≠ 127)
/-- The first line's parts. -/
def firP (s : List UInt8) : List UInt8 × List UInt8 × Bool :=
  if (Lib.cut s [32]).2.2 = true ∧ (Lib.cut (Lib.cut s [32]).2.1 [32]).2.2 = true ∧ tokB (Lib.cut s [32]).1 = true ∧ ¬ (Lib.cut (Lib.cut s [32]).2.1 [32]).1 = [] ∧ (Lib.cut (Lib.cut s [32]).2.1 [32]).2.1 = http ∧ (Lib.cut (Lib.cut s [32]).2.1 [32]).1.all tgC = true then
    ((Lib.cut s [32]).1, (Lib.cut (Lib.cut s [32]).2.1 [32]).1, true)
  else ([], [], false)
/-- A header's name and value. -/
def hdrP (s : List UInt8) : List UInt8 × List UInt8 × Bool :=
  if (Lib.cut s [58]).2.2 = true ∧ tokB (Lib.cut s [58]).1 = true ∧ (Lib.cut s [58]).2.1.all vaC = true then (smallL (Lib.cut s [58]).1, Lib.trimS (Lib.cut s [58]).2.1 bl, true) else ([], [], false)
def triD (r : List UInt8 × List UInt8 × Bool) : D := .tu [.s r.1, .s r.2.1, .b r.2.2]

set_option maxRecDepth 100000 in
set_option maxHeartbeats 2000000 in
theorem first_ctr (s : List UInt8) (hs : s.length ≤ 1000000) : Ctr Tryd.prog 41 [.s s] (triD (firP s)) := by
  have c1 := w_cut s [32] (by omega)
  have l1 := cut_len s [32]
  have hF : firP s = if (Lib.cut s [32]).2.2 = true ∧ (Lib.cut (Lib.cut s [32]).2.1 [32]).2.2 = true ∧ tokB (Lib.cut s [32]).1 = true ∧ ¬ (Lib.cut (Lib.cut s [32]).2.1 [32]).1 = [] ∧ (Lib.cut (Lib.cut s [32]).2.1 [32]).2.1 = http ∧ (Lib.cut (Lib.cut s [32]).2.1 [32]).1.all tgC = true then
    ((Lib.cut s [32]).1, (Lib.cut (Lib.cut s [32]).2.1 [32]).1, true) else ([], [], false) := rfl
  generalize firP s = R at hF
  generalize Lib.cut s [32] = x at *
  obtain ⟨m, rest, a⟩ := x
  dsimp only at c1 l1 hF
  have c2 := w_cut rest [32] (by omega)
  have l2 := cut_len rest [32]
  generalize Lib.cut rest [32] = y at *
  obtain ⟨tg, ver, b⟩ := y
  dsimp only at c2 l2 hF
  have c3 := token_ctr m (by omega)
  generalize tokB m = tk at *
  refine r_fun Tryd.func41 rfl Tryd.ntmps41 Tryd.results41 rfl rfl fun X hL hX => ?_
  by_cases hall : a = true ∧ b = true ∧ tk = true ∧ ¬ tg = [] ∧ ver = http
  · obtain ⟨rfl, rfl, rfl, h4, h5⟩ := hall
    subst h5
    have h4' : ¬ tg = (ByteArray.mk #[]).data.toList := h4
    repeat' (first
      | refine r_call (f := 44) rfl rfl Tryd.call44 rfl c1 ?_ | refine r_call (f := 44) rfl rfl Tryd.call44 rfl c2 ?_ | refine r_gcall (f := 17) rfl rfl rfl rfl Tryd.call17 rfl c3 ?_
      | with_reducible (first | refine t_seq ?_ | refine t_region ?_ | refine c_nil ?_ | refine n_then ?_ | refine t_ret ?_ | refine t_skip ?_ | refine t_exit ?_ | refine t_block ?_ | refine n_block ?_ | refine e_then ?_ | refine x_then ?_ | refine x_block ?_ | refine t_draw ?_)
      | refine r_val rfl rfl True.intro ?_ | refine r_gskip rfl rfl rfl ?_ | refine r_gskip2 rfl rfl rfl ?_ | refine r_gval rfl rfl rfl rfl True.intro ?_
      | refine t_true rfl ?_ | refine t_false rfl ?_
      | ((first | refine t_cond_d rfl ?_ ?_ | refine t_cond_i rfl ?_ ?_ | refine t_cond_j rfl ?_ ?_ | refine t_cond_s rfl ?_ ?_ | refine t_cond_n rfl ?_ ?_ | refine t_cond rfl ?_ ?_ | refine c_split_d rfl rfl ?_ ?_ | refine c_split_i rfl rfl ?_ ?_ | refine c_split_j rfl rfl ?_ ?_ | refine c_split_s rfl rfl ?_ ?_ | refine c_split_n rfl rfl ?_ ?_) <;> intro <;> try (first | (rename_i hz; exact Bool.noConfusion (show true = false from hz)) | (rename_i hz; exact Bool.noConfusion (show false = true from hz)) | (exfalso; omega)))
      | ((first | refine r_val rfl rfl ?_ ?_ | refine r_gval rfl rfl rfl rfl ?_ ?_ | refine r_obj rfl rfl ?_ ?_ | refine r_sto rfl ?_ ?_ | refine r_gobj rfl rfl rfl rfl ?_ ?_); focus (first | omega | exact Nat.le_of_ble_eq_true rfl | (simp only [wrap_u8, IntKind.wrap_i64, IntKind.wrap_i32, wrap_u32', wrap_u64', InI]; (repeat' refine And.intro ?_ ?_) <;> omega) | ((repeat' refine And.intro ?_ ?_) <;> first | omega | rfl | exact Nat.le_refl _ | exact Nat.le_of_ble_eq_true rfl | exact bytesF_one _) | (simp_all; done) | (simp_all; omega)))
      | refine e_hit rfl ?_ | refine e_miss rfl ?_
      | with_reducible refine ⟨by kernel_rfl, ?_⟩ | refine x_end rfl ?_ | refine n_end rfl ?_ | ((with_reducible refine c_grd ?_); (fail_if_success (refine c_lit true rfl rfl rfl ?_)); (fail_if_success (refine c_lit false rfl rfl rfl ?_)); refine c_split rfl rfl (fun _ => ?_) (fun _ => ?_)))
    · rename_i hz
      exact absurd hz h4'
    · refine T.loop hL (fun i : Nat => [(2, .s m), (3, .s tg), (42, .i .i64 tg.length), (43, .i .i64 i)]) (fun _ => []) (fun i => i ≤ tg.length ∧ (tg.take i).all tgC = true) (fun i => tg.length - i) 0 ⟨Nat.zero_le _, by simp⟩
        ⟨⟨rfl, rfl, rfl, rfl, trivial⟩, trivial, rfl, fun q hq => by rw [hX] at hq; simp at hq⟩ ?_
      rintro i ⟨hi, hall⟩
      by_cases hil : i < tg.length
      · have hst := allT (p := tgC) hil
        have ha := atN tg i
        cases hc : tgC (tg.getD i 0) with
        | true =>
          have hcc := of_decide_eq_true hc
          have hna : 33 ≤ at' tg i ∧ at' tg i ≤ 126 := by omega
          clear hcc ha h4 h4'
          repeat' (first
            | with_reducible (first | refine t_seq ?_ | refine t_region ?_ | refine c_nil ?_ | refine n_then ?_ | refine t_ret ?_ | refine t_skip ?_ | refine t_exit ?_ | refine t_block ?_ | refine n_block ?_ | refine e_then ?_ | refine x_then ?_ | refine x_block ?_ | refine t_draw ?_)
            | refine r_val rfl rfl True.intro ?_ | refine r_gskip rfl rfl rfl ?_ | refine r_gskip2 rfl rfl rfl ?_ | refine r_gval rfl rfl rfl rfl True.intro ?_
            | refine t_true rfl ?_ | refine t_false rfl ?_
            | ((first | refine t_cond_d rfl ?_ ?_ | refine t_cond_i rfl ?_ ?_ | refine t_cond_j rfl ?_ ?_ | refine t_cond_s rfl ?_ ?_ | refine t_cond_n rfl ?_ ?_ | refine t_cond rfl ?_ ?_ | refine c_split_d rfl rfl ?_ ?_ | refine c_split_i rfl rfl ?_ ?_ | refine c_split_j rfl rfl ?_ ?_ | refine c_split_s rfl rfl ?_ ?_ | refine c_split_n rfl rfl ?_ ?_) <;> intro <;> try (first | (rename_i hz; exact Bool.noConfusion (show true = false from hz)) | (rename_i hz; exact Bool.noConfusion (show false = true from hz)) | (exfalso; omega)))
            | ((first | refine r_val rfl rfl ?_ ?_ | refine r_gval rfl rfl rfl rfl ?_ ?_ | refine r_obj rfl rfl ?_ ?_ | refine r_sto rfl ?_ ?_ | refine r_gobj rfl rfl rfl rfl ?_ ?_); focus (first | omega | exact Nat.le_of_ble_eq_true rfl | (simp only [wrap_u8, IntKind.wrap_i64, IntKind.wrap_i32, wrap_u32', wrap_u64', InI]; (repeat' refine And.intro ?_ ?_) <;> omega) | ((repeat' refine And.intro ?_ ?_) <;> first | omega | rfl | exact Nat.le_refl _ | exact Nat.le_of_ble_eq_true rfl | exact bytesF_one _) | (simp_all; done) | (simp_all; omega)))
            | refine e_hit rfl ?_ | refine e_miss rfl ?_
            | with_reducible refine ⟨by kernel_rfl, ?_⟩ | refine x_end rfl ?_ | refine n_end rfl ?_ | ((with_reducible refine c_grd ?_); (fail_if_success (refine c_lit true rfl rfl rfl ?_)); (fail_if_success (refine c_lit false rfl rfl rfl ?_)); refine c_split rfl rfl (fun _ => ?_) (fun _ => ?_)))
          all_goals exact ⟨i + 1, ⟨by omega, by rw [hst, hall, hc]; rfl⟩, by omega, ⟨rfl, rfl, rfl, congrArg (D.i .i64) (by omega), trivial⟩, trivial, rfl, fun q hq => by rw [hX] at hq; simp at hq⟩
        | false =>
          have hcc := of_decide_eq_false hc
          have hna : ¬ (33 ≤ at' tg i ∧ at' tg i ≤ 126) := by omega
          rw [hF, if_neg (fun q => by rw [allF hil hc] at q; cases q.2.2.2.2.2)]
          clear hcc ha h4 h4'
          repeat' (first
            | with_reducible (first | refine t_seq ?_ | refine t_region ?_ | refine c_nil ?_ | refine n_then ?_ | refine t_ret ?_ | refine t_skip ?_ | refine t_exit ?_ | refine t_block ?_ | refine n_block ?_ | refine e_then ?_ | refine x_then ?_ | refine x_block ?_ | refine t_draw ?_)
            | refine r_val rfl rfl True.intro ?_ | refine r_gskip rfl rfl rfl ?_ | refine r_gskip2 rfl rfl rfl ?_ | refine r_gval rfl rfl rfl rfl True.intro ?_
            | refine t_true rfl ?_ | refine t_false rfl ?_
            | ((first | refine t_cond_d rfl ?_ ?_ | refine t_cond_i rfl ?_ ?_ | refine t_cond_j rfl ?_ ?_ | refine t_cond_s rfl ?_ ?_ | refine t_cond_n rfl ?_ ?_ | refine t_cond rfl ?_ ?_ | refine c_split_d rfl rfl ?_ ?_ | refine c_split_i rfl rfl ?_ ?_ | refine c_split_j rfl rfl ?_ ?_ | refine c_split_s rfl rfl ?_ ?_ | refine c_split_n rfl rfl ?_ ?_) <;> intro <;> try (first | (rename_i hz; exact Bool.noConfusion (show true = false from hz)) | (rename_i hz; exact Bool.noConfusion (show false = true from hz)) | (exfalso; omega)))
            | ((first | refine r_val rfl rfl ?_ ?_ | refine r_gval rfl rfl rfl rfl ?_ ?_ | refine r_obj rfl rfl ?_ ?_ | refine r_sto rfl ?_ ?_ | refine r_gobj rfl rfl rfl rfl ?_ ?_); focus (first | omega | exact Nat.le_of_ble_eq_true rfl | (simp only [wrap_u8, IntKind.wrap_i64, IntKind.wrap_i32, wrap_u32', wrap_u64', InI]; (repeat' refine And.intro ?_ ?_) <;> omega) | ((repeat' refine And.intro ?_ ?_) <;> first | omega | rfl | exact Nat.le_refl _ | exact Nat.le_of_ble_eq_true rfl | exact bytesF_one _) | (simp_all; done) | (simp_all; omega)))
            | refine e_hit rfl ?_ | refine e_miss rfl ?_
            | with_reducible refine ⟨by kernel_rfl, ?_⟩ | refine x_end rfl ?_ | refine n_end rfl ?_ | ((with_reducible refine c_grd ?_); (fail_if_success (refine c_lit true rfl rfl rfl ?_)); (fail_if_success (refine c_lit false rfl rfl rfl ?_)); refine c_split rfl rfl (fun _ => ?_) (fun _ => ?_)))
          all_goals rfl
      · have : i = tg.length := by omega
        subst this
        rw [List.take_length] at hall
        rw [hF, if_pos ⟨rfl, rfl, rfl, h4, rfl, hall⟩]
        repeat' (first
          | with_reducible (first | refine t_seq ?_ | refine t_region ?_ | refine c_nil ?_ | refine n_then ?_ | refine t_ret ?_ | refine t_skip ?_ | refine t_exit ?_ | refine t_block ?_ | refine n_block ?_ | refine e_then ?_ | refine x_then ?_ | refine x_block ?_ | refine t_draw ?_)
          | refine r_val rfl rfl True.intro ?_ | refine r_gskip rfl rfl rfl ?_ | refine r_gskip2 rfl rfl rfl ?_ | refine r_gval rfl rfl rfl rfl True.intro ?_
          | refine t_true rfl ?_ | refine t_false rfl ?_
          | ((first | refine t_cond_d rfl ?_ ?_ | refine t_cond_i rfl ?_ ?_ | refine t_cond_j rfl ?_ ?_ | refine t_cond_s rfl ?_ ?_ | refine t_cond_n rfl ?_ ?_ | refine t_cond rfl ?_ ?_ | refine c_split_d rfl rfl ?_ ?_ | refine c_split_i rfl rfl ?_ ?_ | refine c_split_j rfl rfl ?_ ?_ | refine c_split_s rfl rfl ?_ ?_ | refine c_split_n rfl rfl ?_ ?_) <;> intro <;> try (first | (rename_i hz; exact Bool.noConfusion (show true = false from hz)) | (rename_i hz; exact Bool.noConfusion (show false = true from hz)) | (exfalso; omega)))
          | ((first | refine r_val rfl rfl ?_ ?_ | refine r_gval rfl rfl rfl rfl ?_ ?_ | refine r_obj rfl rfl ?_ ?_ | refine r_sto rfl ?_ ?_ | refine r_gobj rfl rfl rfl rfl ?_ ?_); focus (first | omega | exact Nat.le_of_ble_eq_true rfl | (simp only [wrap_u8, IntKind.wrap_i64, IntKind.wrap_i32, wrap_u32', wrap_u64', InI]; (repeat' refine And.intro ?_ ?_) <;> omega) | ((repeat' refine And.intro ?_ ?_) <;> first | omega | rfl | exact Nat.le_refl _ | exact Nat.le_of_ble_eq_true rfl | exact bytesF_one _) | (simp_all; done) | (simp_all; omega)))
          | refine e_hit rfl ?_ | refine e_miss rfl ?_
          | with_reducible refine ⟨by kernel_rfl, ?_⟩ | refine x_end rfl ?_ | refine n_end rfl ?_ | ((with_reducible refine c_grd ?_); (fail_if_success (refine c_lit true rfl rfl rfl ?_)); (fail_if_success (refine c_lit false rfl rfl rfl ?_)); refine c_split rfl rfl (fun _ => ?_) (fun _ => ?_)))
        all_goals rfl
  · have hn : R = ([], [], false) := by
      rw [hF]
      exact if_neg fun q => hall ⟨q.1, q.2.1, q.2.2.1, q.2.2.2.1, q.2.2.2.2.1⟩
    rw [hn]
    clear hF hn
    repeat' (first
      | refine r_call (f := 44) rfl rfl Tryd.call44 rfl c1 ?_ | refine r_call (f := 44) rfl rfl Tryd.call44 rfl c2 ?_ | refine r_gcall (f := 17) rfl rfl rfl rfl Tryd.call17 rfl c3 ?_
      | with_reducible (first | refine t_seq ?_ | refine t_region ?_ | refine c_nil ?_ | refine n_then ?_ | refine t_ret ?_ | refine t_skip ?_ | refine t_exit ?_ | refine t_block ?_ | refine n_block ?_ | refine e_then ?_ | refine x_then ?_ | refine x_block ?_ | refine t_draw ?_)
      | refine r_val rfl rfl True.intro ?_ | refine r_gskip rfl rfl rfl ?_ | refine r_gskip2 rfl rfl rfl ?_ | refine r_gval rfl rfl rfl rfl True.intro ?_
      | refine t_true rfl ?_ | refine t_false rfl ?_
      | ((first | refine t_cond_d rfl ?_ ?_ | refine t_cond_i rfl ?_ ?_ | refine t_cond_j rfl ?_ ?_ | refine t_cond_s rfl ?_ ?_ | refine t_cond_n rfl ?_ ?_ | refine t_cond rfl ?_ ?_ | refine c_split_d rfl rfl ?_ ?_ | refine c_split_i rfl rfl ?_ ?_ | refine c_split_j rfl rfl ?_ ?_ | refine c_split_s rfl rfl ?_ ?_ | refine c_split_n rfl rfl ?_ ?_) <;> intro <;> try (first | (rename_i hz; exact Bool.noConfusion (show true = false from hz)) | (rename_i hz; exact Bool.noConfusion (show false = true from hz)) | (exfalso; omega)))
      | ((first | refine r_val rfl rfl ?_ ?_ | refine r_gval rfl rfl rfl rfl ?_ ?_ | refine r_obj rfl rfl ?_ ?_ | refine r_sto rfl ?_ ?_ | refine r_gobj rfl rfl rfl rfl ?_ ?_); focus (first | omega | exact Nat.le_of_ble_eq_true rfl | (simp only [wrap_u8, IntKind.wrap_i64, IntKind.wrap_i32, wrap_u32', wrap_u64', InI]; (repeat' refine And.intro ?_ ?_) <;> omega) | ((repeat' refine And.intro ?_ ?_) <;> first | omega | rfl | exact Nat.le_refl _ | exact Nat.le_of_ble_eq_true rfl | exact bytesF_one _) | (simp_all; done) | (simp_all; omega)))
      | refine e_hit rfl ?_ | refine e_miss rfl ?_
      | with_reducible refine ⟨by kernel_rfl, ?_⟩ | refine x_end rfl ?_ | refine n_end rfl ?_ | ((with_reducible refine c_grd ?_); (fail_if_success (refine c_lit true rfl rfl rfl ?_)); (fail_if_success (refine c_lit false rfl rfl rfl ?_)); refine c_split rfl rfl (fun _ => ?_) (fun _ => ?_)))
    all_goals first
      | rfl
      | (exfalso; rename_i q1 q2 q3 q4 q5; exact hall ⟨q1, q2, q3, q4, beq_iff_eq.1 q5⟩)
      | trace_state

set_option maxRecDepth 100000 in
set_option maxHeartbeats 2000000 in
theorem header_ctr (s : List UInt8) (hs : s.length ≤ 1000000) : Ctr Tryd.prog 42 [.s s] (triD (hdrP s)) := by
  have c1 := w_cut s [58] (by omega)
  have l1 := cut_len s [58]
  have hF : hdrP s = if (Lib.cut s [58]).2.2 = true ∧ tokB (Lib.cut s [58]).1 = true ∧ (Lib.cut s [58]).2.1.all vaC = true then (smallL (Lib.cut s [58]).1, Lib.trimS (Lib.cut s [58]).2.1 bl, true) else ([], [], false) := rfl
  generalize hdrP s = R at hF
  generalize Lib.cut s [58] = x at *
  obtain ⟨m, v, a⟩ := x
  dsimp only at c1 l1 hF
  have c3 := token_ctr m (by omega)
  have c4 := small_ctr m (by omega)
  have c5 := w_trim v bl (by omega) (by decide) blanks_ascii
  generalize tokB m = tk at *
  generalize smallL m = sm at *
  generalize Lib.trimS v bl = tv at *
  refine r_fun Tryd.func42 rfl Tryd.ntmps42 Tryd.results42 rfl rfl fun X hL hX => ?_
  by_cases hall : a = true ∧ tk = true
  · obtain ⟨rfl, rfl⟩ := hall
    repeat' (first
      | refine r_call (f := 44) rfl rfl Tryd.call44 rfl c1 ?_ | refine r_gcall (f := 17) rfl rfl rfl rfl Tryd.call17 rfl c3 ?_
      | with_reducible (first | refine t_seq ?_ | refine t_region ?_ | refine c_nil ?_ | refine n_then ?_ | refine t_ret ?_ | refine t_skip ?_ | refine t_exit ?_ | refine t_block ?_ | refine n_block ?_ | refine e_then ?_ | refine x_then ?_ | refine x_block ?_ | refine t_draw ?_)
      | refine r_val rfl rfl True.intro ?_ | refine r_gskip rfl rfl rfl ?_ | refine r_gskip2 rfl rfl rfl ?_ | refine r_gval rfl rfl rfl rfl True.intro ?_
      | refine t_true rfl ?_ | refine t_false rfl ?_
      | ((first | refine t_cond_d rfl ?_ ?_ | refine t_cond_i rfl ?_ ?_ | refine t_cond_j rfl ?_ ?_ | refine t_cond_s rfl ?_ ?_ | refine t_cond_n rfl ?_ ?_ | refine t_cond rfl ?_ ?_ | refine c_split_d rfl rfl ?_ ?_ | refine c_split_i rfl rfl ?_ ?_ | refine c_split_j rfl rfl ?_ ?_ | refine c_split_s rfl rfl ?_ ?_ | refine c_split_n rfl rfl ?_ ?_) <;> intro <;> try (first | (rename_i hz; exact Bool.noConfusion (show true = false from hz)) | (rename_i hz; exact Bool.noConfusion (show false = true from hz)) | (exfalso; omega)))
      | ((first | refine r_val rfl rfl ?_ ?_ | refine r_gval rfl rfl rfl rfl ?_ ?_ | refine r_obj rfl rfl ?_ ?_ | refine r_sto rfl ?_ ?_ | refine r_gobj rfl rfl rfl rfl ?_ ?_); focus (first | omega | exact Nat.le_of_ble_eq_true rfl | (simp only [wrap_u8, IntKind.wrap_i64, IntKind.wrap_i32, wrap_u32', wrap_u64', InI]; (repeat' refine And.intro ?_ ?_) <;> omega) | ((repeat' refine And.intro ?_ ?_) <;> first | omega | rfl | exact Nat.le_refl _ | exact Nat.le_of_ble_eq_true rfl | exact bytesF_one _) | (simp_all; done) | (simp_all; omega)))
      | refine e_hit rfl ?_ | refine e_miss rfl ?_
      | with_reducible refine ⟨by kernel_rfl, ?_⟩ | refine x_end rfl ?_ | refine n_end rfl ?_ | ((with_reducible refine c_grd ?_); (fail_if_success (refine c_lit true rfl rfl rfl ?_)); (fail_if_success (refine c_lit false rfl rfl rfl ?_)); refine c_split rfl rfl (fun _ => ?_) (fun _ => ?_)))
    refine T.loop hL (fun i : Nat => [(2, .s m), (3, .s v), (21, .i .i64 v.length), (22, .i .i64 i)]) (fun _ => []) (fun i => i ≤ v.length ∧ (v.take i).all vaC = true) (fun i => v.length - i) 0 ⟨Nat.zero_le _, by simp⟩
      ⟨⟨rfl, rfl, rfl, rfl, trivial⟩, trivial, rfl, fun q hq => by rw [hX] at hq; simp at hq⟩ ?_
    rintro i ⟨hi, hall⟩
    by_cases hil : i < v.length
    · have hst := allT (p := vaC) hil
      have ha := atN v i
      cases hc : vaC (v.getD i 0) with
      | true =>
        have hcc := of_decide_eq_true hc
        have hna : (32 ≤ at' v i ∨ at' v i = 9) ∧ ¬ at' v i = 127 := by omega
        clear hcc ha
        repeat' (first
          | with_reducible (first | refine t_seq ?_ | refine t_region ?_ | refine c_nil ?_ | refine n_then ?_ | refine t_ret ?_ | refine t_skip ?_ | refine t_exit ?_ | refine t_block ?_ | refine n_block ?_ | refine e_then ?_ | refine x_then ?_ | refine x_block ?_ | refine t_draw ?_)
          | refine r_val rfl rfl True.intro ?_ | refine r_gskip rfl rfl rfl ?_ | refine r_gskip2 rfl rfl rfl ?_ | refine r_gval rfl rfl rfl rfl True.intro ?_
          | refine t_true rfl ?_ | refine t_false rfl ?_
          | ((first | refine t_cond_d rfl ?_ ?_ | refine t_cond_i rfl ?_ ?_ | refine t_cond_j rfl ?_ ?_ | refine t_cond_s rfl ?_ ?_ | refine t_cond_n rfl ?_ ?_ | refine t_cond rfl ?_ ?_ | refine c_split_d rfl rfl ?_ ?_ | refine c_split_i rfl rfl ?_ ?_ | refine c_split_j rfl rfl ?_ ?_ | refine c_split_s rfl rfl ?_ ?_ | refine c_split_n rfl rfl ?_ ?_) <;> intro <;> try (first | (rename_i hz; exact Bool.noConfusion (show true = false from hz)) | (rename_i hz; exact Bool.noConfusion (show false = true from hz)) | (exfalso; omega)))
          | ((first | refine r_val rfl rfl ?_ ?_ | refine r_gval rfl rfl rfl rfl ?_ ?_ | refine r_obj rfl rfl ?_ ?_ | refine r_sto rfl ?_ ?_ | refine r_gobj rfl rfl rfl rfl ?_ ?_); focus (first | omega | exact Nat.le_of_ble_eq_true rfl | (simp only [wrap_u8, IntKind.wrap_i64, IntKind.wrap_i32, wrap_u32', wrap_u64', InI]; (repeat' refine And.intro ?_ ?_) <;> omega) | ((repeat' refine And.intro ?_ ?_) <;> first | omega | rfl | exact Nat.le_refl _ | exact Nat.le_of_ble_eq_true rfl | exact bytesF_one _) | (simp_all; done) | (simp_all; omega)))
          | refine e_hit rfl ?_ | refine e_miss rfl ?_
          | with_reducible refine ⟨by kernel_rfl, ?_⟩ | refine x_end rfl ?_ | refine n_end rfl ?_ | ((with_reducible refine c_grd ?_); (fail_if_success (refine c_lit true rfl rfl rfl ?_)); (fail_if_success (refine c_lit false rfl rfl rfl ?_)); refine c_split rfl rfl (fun _ => ?_) (fun _ => ?_)))
        all_goals exact ⟨i + 1, ⟨by omega, by rw [hst, hall, hc]; rfl⟩, by omega, ⟨rfl, rfl, rfl, congrArg (D.i .i64) (by omega), trivial⟩, trivial, rfl, fun q hq => by rw [hX] at hq; simp at hq⟩
      | false =>
        have hcc := of_decide_eq_false hc
        have hna : ¬ ((32 ≤ at' v i ∨ at' v i = 9) ∧ ¬ at' v i = 127) := by omega
        rw [hF, if_neg (fun q => by rw [allF hil hc] at q; cases q.2.2)]
        clear hcc ha
        repeat' (first
          | with_reducible (first | refine t_seq ?_ | refine t_region ?_ | refine c_nil ?_ | refine n_then ?_ | refine t_ret ?_ | refine t_skip ?_ | refine t_exit ?_ | refine t_block ?_ | refine n_block ?_ | refine e_then ?_ | refine x_then ?_ | refine x_block ?_ | refine t_draw ?_)
          | refine r_val rfl rfl True.intro ?_ | refine r_gskip rfl rfl rfl ?_ | refine r_gskip2 rfl rfl rfl ?_ | refine r_gval rfl rfl rfl rfl True.intro ?_
          | refine t_true rfl ?_ | refine t_false rfl ?_
          | ((first | refine t_cond_d rfl ?_ ?_ | refine t_cond_i rfl ?_ ?_ | refine t_cond_j rfl ?_ ?_ | refine t_cond_s rfl ?_ ?_ | refine t_cond_n rfl ?_ ?_ | refine t_cond rfl ?_ ?_ | refine c_split_d rfl rfl ?_ ?_ | refine c_split_i rfl rfl ?_ ?_ | refine c_split_j rfl rfl ?_ ?_ | refine c_split_s rfl rfl ?_ ?_ | refine c_split_n rfl rfl ?_ ?_) <;> intro <;> try (first | (rename_i hz; exact Bool.noConfusion (show true = false from hz)) | (rename_i hz; exact Bool.noConfusion (show false = true from hz)) | (exfalso; omega)))
          | ((first | refine r_val rfl rfl ?_ ?_ | refine r_gval rfl rfl rfl rfl ?_ ?_ | refine r_obj rfl rfl ?_ ?_ | refine r_sto rfl ?_ ?_ | refine r_gobj rfl rfl rfl rfl ?_ ?_); focus (first | omega | exact Nat.le_of_ble_eq_true rfl | (simp only [wrap_u8, IntKind.wrap_i64, IntKind.wrap_i32, wrap_u32', wrap_u64', InI]; (repeat' refine And.intro ?_ ?_) <;> omega) | ((repeat' refine And.intro ?_ ?_) <;> first | omega | rfl | exact Nat.le_refl _ | exact Nat.le_of_ble_eq_true rfl | exact bytesF_one _) | (simp_all; done) | (simp_all; omega)))
          | refine e_hit rfl ?_ | refine e_miss rfl ?_
          | with_reducible refine ⟨by kernel_rfl, ?_⟩ | refine x_end rfl ?_ | refine n_end rfl ?_ | ((with_reducible refine c_grd ?_); (fail_if_success (refine c_lit true rfl rfl rfl ?_)); (fail_if_success (refine c_lit false rfl rfl rfl ?_)); refine c_split rfl rfl (fun _ => ?_) (fun _ => ?_)))
        all_goals rfl
    · have : i = v.length := by omega
      subst this
      rw [List.take_length] at hall
      rw [hF, if_pos ⟨rfl, rfl, hall⟩]
      repeat' (first
        | refine r_call (f := 66) rfl rfl Tryd.call66 rfl c4 ?_ | refine r_call (f := 67) rfl rfl Tryd.call67 rfl c5 ?_
        | with_reducible (first | refine t_seq ?_ | refine t_region ?_ | refine c_nil ?_ | refine n_then ?_ | refine t_ret ?_ | refine t_skip ?_ | refine t_exit ?_ | refine t_block ?_ | refine n_block ?_ | refine e_then ?_ | refine x_then ?_ | refine x_block ?_ | refine t_draw ?_)
        | refine r_val rfl rfl True.intro ?_ | refine r_gskip rfl rfl rfl ?_ | refine r_gskip2 rfl rfl rfl ?_ | refine r_gval rfl rfl rfl rfl True.intro ?_
        | refine t_true rfl ?_ | refine t_false rfl ?_
        | ((first | refine t_cond_d rfl ?_ ?_ | refine t_cond_i rfl ?_ ?_ | refine t_cond_j rfl ?_ ?_ | refine t_cond_s rfl ?_ ?_ | refine t_cond_n rfl ?_ ?_ | refine t_cond rfl ?_ ?_ | refine c_split_d rfl rfl ?_ ?_ | refine c_split_i rfl rfl ?_ ?_ | refine c_split_j rfl rfl ?_ ?_ | refine c_split_s rfl rfl ?_ ?_ | refine c_split_n rfl rfl ?_ ?_) <;> intro <;> try (first | (rename_i hz; exact Bool.noConfusion (show true = false from hz)) | (rename_i hz; exact Bool.noConfusion (show false = true from hz)) | (exfalso; omega)))
        | ((first | refine r_val rfl rfl ?_ ?_ | refine r_gval rfl rfl rfl rfl ?_ ?_ | refine r_obj rfl rfl ?_ ?_ | refine r_sto rfl ?_ ?_ | refine r_gobj rfl rfl rfl rfl ?_ ?_); focus (first | omega | exact Nat.le_of_ble_eq_true rfl | (simp only [wrap_u8, IntKind.wrap_i64, IntKind.wrap_i32, wrap_u32', wrap_u64', InI]; (repeat' refine And.intro ?_ ?_) <;> omega) | ((repeat' refine And.intro ?_ ?_) <;> first | omega | rfl | exact Nat.le_refl _ | exact Nat.le_of_ble_eq_true rfl | exact bytesF_one _) | (simp_all; done) | (simp_all; omega)))
        | refine e_hit rfl ?_ | refine e_miss rfl ?_
        | with_reducible refine ⟨by kernel_rfl, ?_⟩ | refine x_end rfl ?_ | refine n_end rfl ?_ | ((with_reducible refine c_grd ?_); (fail_if_success (refine c_lit true rfl rfl rfl ?_)); (fail_if_success (refine c_lit false rfl rfl rfl ?_)); refine c_split rfl rfl (fun _ => ?_) (fun _ => ?_)))
      all_goals rfl
  · have hn : R = ([], [], false) := by
      rw [hF]
      exact if_neg fun q => hall ⟨q.1, q.2.1⟩
    rw [hn]
    clear hF hn
    repeat' (first
      | refine r_call (f := 44) rfl rfl Tryd.call44 rfl c1 ?_ | refine r_gcall (f := 17) rfl rfl rfl rfl Tryd.call17 rfl c3 ?_
      | with_reducible (first | refine t_seq ?_ | refine t_region ?_ | refine c_nil ?_ | refine n_then ?_ | refine t_ret ?_ | refine t_skip ?_ | refine t_exit ?_ | refine t_block ?_ | refine n_block ?_ | refine e_then ?_ | refine x_then ?_ | refine x_block ?_ | refine t_draw ?_)
      | refine r_val rfl rfl True.intro ?_ | refine r_gskip rfl rfl rfl ?_ | refine r_gskip2 rfl rfl rfl ?_ | refine r_gval rfl rfl rfl rfl True.intro ?_
      | refine t_true rfl ?_ | refine t_false rfl ?_
      | ((first | refine t_cond_d rfl ?_ ?_ | refine t_cond_i rfl ?_ ?_ | refine t_cond_j rfl ?_ ?_ | refine t_cond_s rfl ?_ ?_ | refine t_cond_n rfl ?_ ?_ | refine t_cond rfl ?_ ?_ | refine c_split_d rfl rfl ?_ ?_ | refine c_split_i rfl rfl ?_ ?_ | refine c_split_j rfl rfl ?_ ?_ | refine c_split_s rfl rfl ?_ ?_ | refine c_split_n rfl rfl ?_ ?_) <;> intro <;> try (first | (rename_i hz; exact Bool.noConfusion (show true = false from hz)) | (rename_i hz; exact Bool.noConfusion (show false = true from hz)) | (exfalso; omega)))
      | ((first | refine r_val rfl rfl ?_ ?_ | refine r_gval rfl rfl rfl rfl ?_ ?_ | refine r_obj rfl rfl ?_ ?_ | refine r_sto rfl ?_ ?_ | refine r_gobj rfl rfl rfl rfl ?_ ?_); focus (first | omega | exact Nat.le_of_ble_eq_true rfl | (simp only [wrap_u8, IntKind.wrap_i64, IntKind.wrap_i32, wrap_u32', wrap_u64', InI]; (repeat' refine And.intro ?_ ?_) <;> omega) | ((repeat' refine And.intro ?_ ?_) <;> first | omega | rfl | exact Nat.le_refl _ | exact Nat.le_of_ble_eq_true rfl | exact bytesF_one _) | (simp_all; done) | (simp_all; omega)))
      | refine e_hit rfl ?_ | refine e_miss rfl ?_
      | with_reducible refine ⟨by kernel_rfl, ?_⟩ | refine x_end rfl ?_ | refine n_end rfl ?_ | ((with_reducible refine c_grd ?_); (fail_if_success (refine c_lit true rfl rfl rfl ?_)); (fail_if_success (refine c_lit false rfl rfl rfl ?_)); refine c_split rfl rfl (fun _ => ?_) (fun _ => ?_)))
    all_goals first
      | rfl
      | (exfalso; rename_i q1 q2; exact hall ⟨q1, q2⟩)
      | trace_state

end Go.Proofs.YtghdgjabpdfaoaaDoor.Flow

/- REQ: tags: the program's. -/
namespace Go.Proofs.YtghdgjabpdfaoaaDoor.Flow
open Go

theorem w_trimLeft (s cs : List UInt8) (hcs : cs.length < 4294967281) (ha : ∀ (j : Nat) b, cs[j]? = some b → b.toNat < 128) : Ctr Tryd.prog 95 [.s s, .s cs] (.s (Lib.trimLeftS s cs)) := by
  intro w S vs hv hg hn hr
  have h0 := hr 0 (by simp)
  have h1 := hr 1 (by simp)
  rw [w_two hn]
  generalize vs.getD 0 undef = v0 at *
  generalize vs.getD 1 undef = v1 at *
  cases h0
  cases h1
  refine (Any.strings_TrimLeft_laid Tryd.lays161 (by kernel_rfl) ⟨s.toArray⟩ ⟨cs.toArray⟩ w (by simpa [ByteArray.size] using hcs) (by simpa using ha)).mono ?_
  rintro e w' ⟨rfl, hb⟩
  exact ⟨_, S, rfl, .s _ _, w_below hv hg hb⟩

theorem w_hasPrefix (s p : List UInt8) : Ctr Tryd.prog 96 [.s s, .s p] (.b (Lib.hasPrefix s p)) := by
  intro w S vs hv hg hn hr
  have h0 := hr 0 (by simp)
  have h1 := hr 1 (by simp)
  rw [w_two hn]
  generalize vs.getD 0 undef = v0 at *
  generalize vs.getD 1 undef = v1 at *
  cases h0
  cases h1
  refine (Tryd.strings_HasPrefix ⟨s.toArray⟩ ⟨p.toArray⟩ w).mono ?_
  rintro e w' ⟨rfl, rfl⟩
  exact ⟨_, S, rfl, .b _ _, w_same hv hg⟩

section
variable {X : Ctx} {n : Nat} {fr : Fr} {ow : Ow} {Q : Exit → Fr → Ow → Prop}
/-- A temporary told in other words, ahead of a region. -/
theorem t_tell (id t : Nat) {ops : Array Oper} {b : Bool} {d0 d : D} (h0 : getD' t fr = d0) (he : d0 = d) (h : T Tryd.prog X n (.region id ops b) ((t, d) :: fr) ow Q) : T Tryd.prog X n (.region id ops b) fr ow Q :=
  T.weakF t d (.of_eq (h0.trans he)) h
end

/-! ### Tags -/
def tgO (c : UInt8) : Bool := decide (32 < c.toNat ∧ c.toNat ≠ 127 ∧ c.toNat ≠ 34)
theorem take_more {f : UInt8 → Bool} : ∀ {q : List UInt8} {k : Nat}, k ≤ (q.takeWhile f).length → k < q.length → f (q.getD k 0) = true → k + 1 ≤ (q.takeWhile f).length
  | [], _, _, h, _ => by simp at h
  | c :: q, 0, _, _, hf => by
    have hf : f c = true := hf
    rw [List.takeWhile_cons, if_pos hf]
    simp
  | c :: q, k + 1, hk, hl, hf => by
    rw [List.takeWhile_cons] at hk ⊢
    by_cases hc : f c = true
    · rw [if_pos hc] at hk ⊢
      have := take_more (q := q) (k := k) (by simpa using hk) (by simpa using hl) hf
      simpa using this
    · rw [if_neg hc] at hk
      simp at hk
theorem take_stop {f : UInt8 → Bool} : ∀ {q : List UInt8} {k : Nat}, k ≤ (q.takeWhile f).length → (q.length ≤ k ∨ f (q.getD k 0) = false) → (q.takeWhile f).length = k
  | [], k, hk, _ => by
    simp at hk
    simp [hk]
  | c :: q, 0, _, h => by
    rcases h with h | h
    · simp at h
    · have h : f c = false := h
      rw [List.takeWhile_cons, if_neg (by rw [h]; exact Bool.false_ne_true)]
      rfl
  | c :: q, k + 1, hk, h => by
    rw [List.takeWhile_cons] at hk ⊢
    by_cases hc : f c = true
    · rw [if_pos hc] at hk ⊢
      have := take_stop (q := q) (k := k) (by simpa using hk) (by
        rcases h with h | h
        · exact .inl (by simpa using h)
        · exact .inr h)
      simp [this]
    · rw [if_neg hc] at hk
      simp at hk

def tagN (p : List UInt8) : Nat := 1 + ((p.drop 1).takeWhile tgO).length
def preT (s : List UInt8) : List UInt8 := if Lib.hasPrefix (Lib.trimLeftS s [32, 9, 44]) [87, 47, 34] = true then (Lib.trimLeftS s [32, 9, 44]).drop 2 else Lib.trimLeftS s [32, 9, 44]
def okT (p : List UInt8) : Prop := ¬ p = [] ∧ p.getD 0 0 = 34 ∧ tagN p < p.length ∧ p.getD (tagN p) 0 = 34
instance (p : List UInt8) : Decidable (okT p) := by unfold okT; infer_instance
theorem preT_len (s : List UInt8) : (preT s).length ≤ s.length := by
  have := trimL_len s [32, 9, 44]
  unfold preT
  split
  · rw [List.length_drop]; omega
  · exact this
def tagsV (s : List UInt8) : List (List UInt8) :=
  if h : okT (preT s) then (preT s).take (tagN (preT s) + 1) :: tagsV ((preT s).drop (tagN (preT s) + 1)) else []
termination_by s.length
decreasing_by
  have h1 := preT_len s
  have h2 := h.2.2.1
  rw [List.length_drop]
  omega
theorem tags_more {s : List UInt8} (h : okT (preT s)) : tagsV s = (preT s).take (tagN (preT s) + 1) :: tagsV ((preT s).drop (tagN (preT s) + 1)) := by
  conv => lhs; unfold tagsV
  rw [dif_pos h]
theorem tags_end {s : List UInt8} (h : ¬ okT (preT s)) : tagsV s = [] := by
  unfold tagsV
  rw [dif_neg h]
theorem tagN_le {p : List UInt8} (h : ¬ p = []) : tagN p ≤ p.length := by
  have h1 : ((p.drop 1).takeWhile tgO).length ≤ (p.drop 1).length := (List.takeWhile_sublist _).length_le
  have h2 : 0 < p.length := by cases p with
    | nil => exact absurd rfl h
    | cons c p => simp
  rw [List.length_drop] at h1
  unfold tagN
  omega
theorem drop1 (p : List UInt8) (e : Nat) : (p.drop 1).getD e 0 = p.getD (e + 1) 0 := by
  simp [List.getD_eq_getElem?_getD, Nat.add_comm 1 e]
theorem tagN_more {p : List UInt8} {e : Nat} (h1 : 1 ≤ e) (h2 : e ≤ tagN p) (h3 : e < p.length) (h4 : tgO (p.getD e 0) = true) : e + 1 ≤ tagN p := by
  unfold tagN at *
  have := take_more (f := tgO) (q := p.drop 1) (k := e - 1) (by omega) (by rw [List.length_drop]; omega) (by rw [drop1, show e - 1 + 1 = e by omega]; exact h4)
  omega
theorem tagN_stop {p : List UInt8} {e : Nat} (h1 : 1 ≤ e) (h2 : e ≤ tagN p) (h4 : p.length ≤ e ∨ tgO (p.getD e 0) = false) : tagN p = e := by
  unfold tagN at *
  have := take_stop (f := tgO) (q := p.drop 1) (k := e - 1) (by omega) (by
    rcases h4 with h | h
    · exact .inl (by rw [List.length_drop]; omega)
    · exact .inr (by rw [drop1, show e - 1 + 1 = e by omega]; exact h))
  omega

theorem tag_blanks : ∀ (j : Nat) b, ([32, 9, 44] : List UInt8)[j]? = some b → b.toNat < 128 := fun j b h => by
  have := List.mem_of_getElem? h
  simp at this
  rcases this with rfl | rfl | rfl <;> decide
theorem pre_room {s p : List UInt8} (h : Lib.hasPrefix s p = true) : p.length ≤ s.length := by
  unfold Lib.hasPrefix at h
  exact (List.isPrefixOf_iff_prefix.1 h).length_le
theorem byte34 (c : UInt8) : c = 34 ↔ (c.toNat : Int) = 34 := by
  constructor
  · rintro rfl
    rfl
  · intro h
    exact UInt8.toNat.inj (by show c.toNat = 34; omega)

set_option maxRecDepth 100000 in
set_option maxHeartbeats 4000000 in
theorem tags_ctr (s0 : List UInt8) (hs : s0.length ≤ 1000000) : Ctr Tryd.prog 69 [.s s0] (.sl 1 (tagsV s0).length (wxF (tagsV s0))) := by
  refine r_fun Tryd.func69 rfl Tryd.ntmps69 Tryd.results69 rfl rfl fun X hL hX => ?_
  repeat' (first
    | with_reducible (first | refine t_seq ?_ | refine t_region ?_ | refine c_nil ?_ | refine n_then ?_ | refine t_ret ?_ | refine t_skip ?_ | refine t_exit ?_ | refine t_block ?_ | refine n_block ?_ | refine e_then ?_ | refine x_then ?_ | refine x_block ?_ | refine t_draw ?_)
    | refine r_val rfl rfl True.intro ?_ | refine r_gskip rfl rfl rfl ?_ | refine r_gskip2 rfl rfl rfl ?_ | refine r_gval rfl rfl rfl rfl True.intro ?_
    | refine t_true rfl ?_ | refine t_false rfl ?_
    | ((first | refine t_cond_d rfl ?_ ?_ | refine t_cond_i rfl ?_ ?_ | refine t_cond_j rfl ?_ ?_ | refine t_cond_s rfl ?_ ?_ | refine t_cond_n rfl ?_ ?_ | refine t_cond rfl ?_ ?_ | refine c_split_d rfl rfl ?_ ?_ | refine c_split_i rfl rfl ?_ ?_ | refine c_split_j rfl rfl ?_ ?_ | refine c_split_s rfl rfl ?_ ?_ | refine c_split_n rfl rfl ?_ ?_) <;> intro <;> try (first | (rename_i hz; exact Bool.noConfusion (show true = false from hz)) | (rename_i hz; exact Bool.noConfusion (show false = true from hz)) | (exfalso; omega)))
    | ((first | refine r_val rfl rfl ?_ ?_ | refine r_gval rfl rfl rfl rfl ?_ ?_ | refine r_obj rfl rfl ?_ ?_ | refine r_sto rfl ?_ ?_ | refine r_gobj rfl rfl rfl rfl ?_ ?_); focus (first | omega | exact Nat.le_of_ble_eq_true rfl | (simp only [wrap_u8, IntKind.wrap_i64, IntKind.wrap_i32, wrap_u32', wrap_u64', InI]; (repeat' refine And.intro ?_ ?_) <;> omega) | ((repeat' refine And.intro ?_ ?_) <;> first | omega | rfl | exact Nat.le_refl _ | exact Nat.le_of_ble_eq_true rfl | exact bytesF_one _) | (simp_all; done) | (simp_all; omega)))
    | refine e_hit rfl ?_ | refine e_miss rfl ?_
    | with_reducible refine ⟨by kernel_rfl, ?_⟩ | ((with_reducible refine c_grd ?_); (fail_if_success (refine c_lit true rfl rfl rfl ?_)); (fail_if_success (refine c_lit false rfl rfl rfl ?_)); refine c_split rfl rfl (fun _ => ?_) (fun _ => ?_)))
  refine T.adopt 3 3 9 1 (wxF []) rfl rfl ?_
  refine T.loop hL (fun x : List (List UInt8) × List UInt8 => [(0, .s x.2), (3, .gs 3 1 x.1.length (wxF x.1))]) (fun x => [(3, .row 9 1 x.1.length)])
    (fun x => x.1 ++ tagsV x.2 = tagsV s0 ∧ x.1.length + x.2.length ≤ s0.length) (fun x => x.2.length) ([], s0) ⟨rfl, by simp⟩
    ⟨⟨rfl, rfl, trivial⟩, ⟨rfl, trivial⟩, rfl, fun q hq => by rw [hX] at hq; simp at hq⟩ ?_
  rintro ⟨l, s⟩ ⟨hI, hlen⟩
  dsimp only at hI hlen ⊢
  have c1 := w_trimLeft s [32, 9, 44] (by decide) tag_blanks
  have c2 := w_hasPrefix (Lib.trimLeftS s [32, 9, 44]) [87, 47, 34]
  have h1 := trimL_len s [32, 9, 44]
  have hpl := preT_len s
  have hend : ¬ okT (preT s) → tagsV s = [] := tags_end
  have hmore : okT (preT s) → tagsV s = (preT s).take (tagN (preT s) + 1) :: tagsV ((preT s).drop (tagN (preT s) + 1)) := tags_more
  have hpre : preT s = if Lib.hasPrefix (Lib.trimLeftS s [32, 9, 44]) [87, 47, 34] = true then (Lib.trimLeftS s [32, 9, 44]).drop 2 else Lib.trimLeftS s [32, 9, 44] := rfl
  have hroom : Lib.hasPrefix (Lib.trimLeftS s [32, 9, 44]) [87, 47, 34] = true → 3 ≤ (Lib.trimLeftS s [32, 9, 44]).length := fun h => pre_room h
  generalize preT s = p at *
  generalize Lib.trimLeftS s [32, 9, 44] = s1 at *
  generalize Lib.hasPrefix s1 [87, 47, 34] = hp at *
  have hraw : List.drop (Int.toNat 2) (List.take ((s1.length : Int)).toNat s1) = s1.drop 2 := by
    rw [Int.toNat_natCast, List.take_length]
    rfl
  have hp1 : hp = true → 3 ≤ s1.length ∧ D.s (List.drop (Int.toNat 2) (List.take ((s1.length : Int)).toNat s1)) = D.s p := fun e => ⟨hroom e, by rw [hraw, hpre, if_pos e]⟩
  have hp0 : hp = false → s1 = p := fun e => by rw [hpre, if_neg (by rw [e]; exact Bool.false_ne_true)]
  clear hraw hroom hpre
  repeat' (first
    | refine r_mid 3 hL (fun _ : Unit => [(0, .s p), (3, .gs 3 1 l.length (wxF l))]) (fun _ => [(3, .row 9 1 l.length)]) (fun _ => True) ?_ ?_ | refine r_call (f := 95) rfl rfl Tryd.call95 rfl c1 ?_ | refine r_call (f := 96) rfl rfl Tryd.call96 rfl c2 ?_
    | with_reducible (first | refine t_seq ?_ | refine t_region ?_ | refine c_nil ?_ | refine n_then ?_ | refine t_ret ?_ | refine t_skip ?_ | refine t_exit ?_ | refine t_block ?_ | refine n_block ?_ | refine e_then ?_ | refine x_then ?_ | refine x_block ?_ | refine t_draw ?_)
    | refine r_val rfl rfl True.intro ?_ | refine r_gskip rfl rfl rfl ?_ | refine r_gskip2 rfl rfl rfl ?_ | refine r_gval rfl rfl rfl rfl True.intro ?_
    | refine t_true rfl ?_ | refine t_false rfl ?_
    | ((first | refine t_cond_d rfl ?_ ?_ | refine t_cond_i rfl ?_ ?_ | refine t_cond_j rfl ?_ ?_ | refine t_cond_s rfl ?_ ?_ | refine t_cond_n rfl ?_ ?_ | refine t_cond rfl ?_ ?_ | refine c_split_d rfl rfl ?_ ?_ | refine c_split_i rfl rfl ?_ ?_ | refine c_split_j rfl rfl ?_ ?_ | refine c_split_s rfl rfl ?_ ?_ | refine c_split_n rfl rfl ?_ ?_) <;> intro <;> try (first | (rename_i hz; exact Bool.noConfusion (show true = false from hz)) | (rename_i hz; exact Bool.noConfusion (show false = true from hz)) | (exfalso; omega)))
    | ((first | refine r_val rfl rfl ?_ ?_ | refine r_gval rfl rfl rfl rfl ?_ ?_ | refine r_obj rfl rfl ?_ ?_ | refine r_sto rfl ?_ ?_ | refine r_gobj rfl rfl rfl rfl ?_ ?_); focus (first | omega | exact Nat.le_of_ble_eq_true rfl | (simp only [wrap_u8, IntKind.wrap_i64, IntKind.wrap_i32, wrap_u32', wrap_u64', InI]; (repeat' refine And.intro ?_ ?_) <;> omega) | ((repeat' refine And.intro ?_ ?_) <;> first | omega | rfl | exact Nat.le_refl _ | exact Nat.le_of_ble_eq_true rfl | exact bytesF_one _) | (simp_all; done) | (simp_all; omega)))
    | refine e_hit rfl ?_ | refine e_miss rfl ?_
    | with_reducible refine ⟨by kernel_rfl, ?_⟩ | ((with_reducible refine c_grd ?_); (fail_if_success (refine c_lit true rfl rfl rfl ?_)); (fail_if_success (refine c_lit false rfl rfl rfl ?_)); refine c_split rfl rfl (fun _ => ?_) (fun _ => ?_)))
  · exact ⟨(), trivial, ⟨(hp1 ‹_›).2, rfl, trivial⟩, ⟨rfl, trivial⟩, rfl, fun q hq => by rw [hX] at hq; simp at hq⟩
  · exact ⟨(), trivial, ⟨congrArg D.s (hp0 ‹_›), rfl, trivial⟩, ⟨rfl, trivial⟩, rfl, fun q hq => by rw [hX] at hq; simp at hq⟩
  · rintro ⟨⟩ -
    have hs : ∀ q, q ≤ p.length → (p.take q).drop 0 = p.take q := fun q _ => rfl
    by_cases h0 : p = []
    · subst h0
      have e : tagsV s = [] := hend fun q => q.1 rfl
      rw [e, List.append_nil] at hI
      subst hI
      repeat' (first
        | with_reducible (first | refine t_seq ?_ | refine t_region ?_ | refine c_nil ?_ | refine n_then ?_ | refine t_ret ?_ | refine t_skip ?_ | refine t_exit ?_ | refine t_block ?_ | refine n_block ?_ | refine e_then ?_ | refine x_then ?_ | refine x_block ?_ | refine t_draw ?_)
        | refine r_val rfl rfl True.intro ?_ | refine r_gskip rfl rfl rfl ?_ | refine r_gskip2 rfl rfl rfl ?_ | refine r_gval rfl rfl rfl rfl True.intro ?_
        | refine t_true rfl ?_ | refine t_false rfl ?_
        | ((first | refine t_cond_d rfl ?_ ?_ | refine t_cond_i rfl ?_ ?_ | refine t_cond_j rfl ?_ ?_ | refine t_cond_s rfl ?_ ?_ | refine t_cond_n rfl ?_ ?_ | refine t_cond rfl ?_ ?_ | refine c_split_d rfl rfl ?_ ?_ | refine c_split_i rfl rfl ?_ ?_ | refine c_split_j rfl rfl ?_ ?_ | refine c_split_s rfl rfl ?_ ?_ | refine c_split_n rfl rfl ?_ ?_) <;> intro <;> try (first | (rename_i hz; exact Bool.noConfusion (show true = false from hz)) | (rename_i hz; exact Bool.noConfusion (show false = true from hz)) | (exfalso; omega)))
        | ((first | refine r_val rfl rfl ?_ ?_ | refine r_gval rfl rfl rfl rfl ?_ ?_ | refine r_obj rfl rfl ?_ ?_ | refine r_sto rfl ?_ ?_ | refine r_gobj rfl rfl rfl rfl ?_ ?_); focus (first | omega | exact Nat.le_of_ble_eq_true rfl | (simp only [wrap_u8, IntKind.wrap_i64, IntKind.wrap_i32, wrap_u32', wrap_u64', InI]; (repeat' refine And.intro ?_ ?_) <;> omega) | ((repeat' refine And.intro ?_ ?_) <;> first | omega | rfl | exact Nat.le_refl _ | exact Nat.le_of_ble_eq_true rfl | exact bytesF_one _) | (simp_all; done) | (simp_all; omega)))
        | refine e_hit rfl ?_ | refine e_miss rfl ?_
        | with_reducible refine ⟨by kernel_rfl, ?_⟩ | refine x_end rfl ?_ | refine n_end rfl ?_ | ((with_reducible refine c_grd ?_); (fail_if_success (refine c_lit true rfl rfl rfl ?_)); (fail_if_success (refine c_lit false rfl rfl rfl ?_)); refine c_split rfl rfl (fun _ => ?_) (fun _ => ?_)))
      all_goals rfl
    · have h0' : ¬ p = (ByteArray.mk #[]).data.toList := h0
      have hpp : 0 < p.length := List.length_pos_iff.2 h0
      by_cases h34 : at' p 0 = 34
      · have hee := tagN_le h0
        have hp34 : p.getD 0 0 = 34 := (byte34 _).2 (by rw [← atN]; exact h34)
        repeat' (first
          | with_reducible (first | refine t_seq ?_ | refine t_region ?_ | refine c_nil ?_ | refine n_then ?_ | refine t_ret ?_ | refine t_skip ?_ | refine t_exit ?_ | refine t_block ?_ | refine n_block ?_ | refine e_then ?_ | refine x_then ?_ | refine x_block ?_ | refine t_draw ?_)
          | refine r_val rfl rfl True.intro ?_ | refine r_gskip rfl rfl rfl ?_ | refine r_gskip2 rfl rfl rfl ?_ | refine r_gval rfl rfl rfl rfl True.intro ?_
          | refine t_true rfl ?_ | refine t_false rfl ?_
          | ((first | refine t_cond_d rfl ?_ ?_ | refine t_cond_i rfl ?_ ?_ | refine t_cond_j rfl ?_ ?_ | refine t_cond_s rfl ?_ ?_ | refine t_cond_n rfl ?_ ?_ | refine t_cond rfl ?_ ?_ | refine c_split_d rfl rfl ?_ ?_ | refine c_split_i rfl rfl ?_ ?_ | refine c_split_j rfl rfl ?_ ?_ | refine c_split_s rfl rfl ?_ ?_ | refine c_split_n rfl rfl ?_ ?_) <;> intro <;> try (first | (rename_i hz; exact Bool.noConfusion (show true = false from hz)) | (rename_i hz; exact Bool.noConfusion (show false = true from hz)) | (exfalso; omega)))
          | ((first | refine r_val rfl rfl ?_ ?_ | refine r_gval rfl rfl rfl rfl ?_ ?_ | refine r_obj rfl rfl ?_ ?_ | refine r_sto rfl ?_ ?_ | refine r_gobj rfl rfl rfl rfl ?_ ?_); focus (first | omega | exact Nat.le_of_ble_eq_true rfl | (simp only [wrap_u8, IntKind.wrap_i64, IntKind.wrap_i32, wrap_u32', wrap_u64', InI]; (repeat' refine And.intro ?_ ?_) <;> omega) | ((repeat' refine And.intro ?_ ?_) <;> first | omega | rfl | exact Nat.le_refl _ | exact Nat.le_of_ble_eq_true rfl | exact bytesF_one _) | (simp_all; done) | (simp_all; omega)))
          | refine e_hit rfl ?_ | refine e_miss rfl ?_
          | with_reducible refine ⟨by kernel_rfl, ?_⟩ | refine x_end rfl ?_ | refine n_end rfl ?_ | ((with_reducible refine c_grd ?_); (fail_if_success (refine c_lit true rfl rfl rfl ?_)); (fail_if_success (refine c_lit false rfl rfl rfl ?_)); refine c_split rfl rfl (fun _ => ?_) (fun _ => ?_)))
        · rename_i hz
          exact absurd hz h0'
        refine T.loop hL (fun e : Nat => [(0, .s p), (3, .gs 3 1 l.length (wxF l)), (4, .i .i64 e)]) (fun _ => [(3, .row 9 1 l.length)]) (fun e => 1 ≤ e ∧ e ≤ tagN p) (fun e => p.length - e) 1 ⟨Nat.le_refl _, by unfold tagN; omega⟩
          ⟨⟨rfl, rfl, rfl, trivial⟩, ⟨rfl, trivial⟩, rfl, fun q hq => by rw [hX] at hq; simp at hq⟩ ?_
        rintro e ⟨he1, he2⟩
        by_cases hel : e < p.length
        · have hae := atN p e
          by_cases hg : tgO (p.getD e 0) = true
          · have hgg := of_decide_eq_true hg
            have hna : 32 < at' p e ∧ ¬ at' p e = 127 ∧ ¬ at' p e = 34 := by omega
            have hm := tagN_more he1 he2 hel hg
            clear hgg hae
            repeat' (first
              | with_reducible (first | refine t_seq ?_ | refine t_region ?_ | refine c_nil ?_ | refine n_then ?_ | refine t_ret ?_ | refine t_skip ?_ | refine t_exit ?_ | refine t_block ?_ | refine n_block ?_ | refine e_then ?_ | refine x_then ?_ | refine x_block ?_ | refine t_draw ?_)
              | refine r_val rfl rfl True.intro ?_ | refine r_gskip rfl rfl rfl ?_ | refine r_gskip2 rfl rfl rfl ?_ | refine r_gval rfl rfl rfl rfl True.intro ?_
              | refine t_true rfl ?_ | refine t_false rfl ?_
              | ((first | refine t_cond_d rfl ?_ ?_ | refine t_cond_i rfl ?_ ?_ | refine t_cond_j rfl ?_ ?_ | refine t_cond_s rfl ?_ ?_ | refine t_cond_n rfl ?_ ?_ | refine t_cond rfl ?_ ?_ | refine c_split_d rfl rfl ?_ ?_ | refine c_split_i rfl rfl ?_ ?_ | refine c_split_j rfl rfl ?_ ?_ | refine c_split_s rfl rfl ?_ ?_ | refine c_split_n rfl rfl ?_ ?_) <;> intro <;> try (first | (rename_i hz; exact Bool.noConfusion (show true = false from hz)) | (rename_i hz; exact Bool.noConfusion (show false = true from hz)) | (exfalso; omega)))
              | ((first | refine r_val rfl rfl ?_ ?_ | refine r_gval rfl rfl rfl rfl ?_ ?_ | refine r_obj rfl rfl ?_ ?_ | refine r_sto rfl ?_ ?_ | refine r_gobj rfl rfl rfl rfl ?_ ?_); focus (first | omega | exact Nat.le_of_ble_eq_true rfl | (simp only [wrap_u8, IntKind.wrap_i64, IntKind.wrap_i32, wrap_u32', wrap_u64', InI]; (repeat' refine And.intro ?_ ?_) <;> omega) | ((repeat' refine And.intro ?_ ?_) <;> first | omega | rfl | exact Nat.le_refl _ | exact Nat.le_of_ble_eq_true rfl | exact bytesF_one _) | (simp_all; done) | (simp_all; omega)))
              | refine e_hit rfl ?_ | refine e_miss rfl ?_
              | with_reducible refine ⟨by kernel_rfl, ?_⟩ | refine x_end rfl ?_ | refine n_end rfl ?_ | ((with_reducible refine c_grd ?_); (fail_if_success (refine c_lit true rfl rfl rfl ?_)); (fail_if_success (refine c_lit false rfl rfl rfl ?_)); refine c_split rfl rfl (fun _ => ?_) (fun _ => ?_)))
            all_goals exact ⟨e + 1, ⟨by omega, hm⟩, by omega, ⟨rfl, rfl, congrArg (D.i .i64) (by omega), trivial⟩, ⟨rfl, trivial⟩, rfl, fun q hq => by rw [hX] at hq; simp at hq⟩
          · have hg' : tgO (p.getD e 0) = false := by simpa using hg
            have htn : tagN p = e := tagN_stop he1 he2 (.inr hg')
            have hgg := of_decide_eq_false hg'
            by_cases hq : at' p e = 34
            · have hok : okT p := ⟨h0, hp34, by omega, by rw [htn]; exact (byte34 _).2 (by rw [← atN]; exact hq)⟩
              have hmo := hmore hok
              rw [htn] at hmo
              clear hgg hae hend hmore
              repeat' (first
                | with_reducible (first | refine t_seq ?_ | refine t_region ?_ | refine c_nil ?_ | refine n_then ?_ | refine t_ret ?_ | refine t_skip ?_ | refine t_exit ?_ | refine t_block ?_ | refine n_block ?_ | refine e_then ?_ | refine x_then ?_ | refine x_block ?_ | refine t_draw ?_)
                | refine r_val rfl rfl True.intro ?_ | refine r_gskip rfl rfl rfl ?_ | refine r_gskip2 rfl rfl rfl ?_ | refine r_gval rfl rfl rfl rfl True.intro ?_
                | refine t_true rfl ?_ | refine t_false rfl ?_
                | ((first | refine t_cond_d rfl ?_ ?_ | refine t_cond_i rfl ?_ ?_ | refine t_cond_j rfl ?_ ?_ | refine t_cond_s rfl ?_ ?_ | refine t_cond_n rfl ?_ ?_ | refine t_cond rfl ?_ ?_ | refine c_split_d rfl rfl ?_ ?_ | refine c_split_i rfl rfl ?_ ?_ | refine c_split_j rfl rfl ?_ ?_ | refine c_split_s rfl rfl ?_ ?_ | refine c_split_n rfl rfl ?_ ?_) <;> intro <;> try (first | (rename_i hz; exact Bool.noConfusion (show true = false from hz)) | (rename_i hz; exact Bool.noConfusion (show false = true from hz)) | (exfalso; omega)))
                | ((first | refine r_val rfl rfl ?_ ?_ | refine r_gval rfl rfl rfl rfl ?_ ?_ | refine r_obj rfl rfl ?_ ?_ | refine r_sto rfl ?_ ?_ | refine r_gobj rfl rfl rfl rfl ?_ ?_); focus (first | omega | exact Nat.le_of_ble_eq_true rfl | (simp only [wrap_u8, IntKind.wrap_i64, IntKind.wrap_i32, wrap_u32', wrap_u64', InI]; (repeat' refine And.intro ?_ ?_) <;> omega) | ((repeat' refine And.intro ?_ ?_) <;> first | omega | rfl | exact Nat.le_refl _ | exact Nat.le_of_ble_eq_true rfl | exact bytesF_one _) | (simp_all; done) | (simp_all; omega)))
                | refine e_hit rfl ?_ | refine e_miss rfl ?_
                | with_reducible refine ⟨by kernel_rfl, ?_⟩ | refine x_end rfl ?_ | refine n_end rfl ?_ | ((with_reducible refine c_grd ?_); (fail_if_success (refine c_lit true rfl rfl rfl ?_)); (fail_if_success (refine c_lit false rfl rfl rfl ?_)); refine c_split rfl rfl (fun _ => ?_) (fun _ => ?_)))
              have hA : List.drop ((e : Int) + 1).toNat (List.take ((p.length : Int)).toNat p) = p.drop (e + 1) := by
                rw [Int.toNat_natCast, List.take_length]
                rfl
              have hB : (l ++ [p.take (e + 1)]).length = l.length + 1 := by simp
              have hC : catF l.length (wxF l) 1 (chunk 1 [D.s (List.drop (Int.toNat 0) (List.take ((e : Int) + 1).toNat p))]) = wxF (l ++ [p.take (e + 1)]) := catF_wx l _ _ rfl
              all_goals exact ⟨(l ++ [p.take (e + 1)], p.drop (e + 1)), ⟨by rw [hmo] at hI; rw [List.append_assoc]; exact hI, by dsimp only; rw [hB, List.length_drop]; omega⟩, by dsimp only; rw [List.length_drop]; omega,
                ⟨congrArg D.s hA, (by
                  show D.gs 3 1 (l.length + 1) _ = D.gs 3 1 (l ++ [p.take (e + 1)]).length (wxF (l ++ [p.take (e + 1)]))
                  rw [hB, ← hC]), trivial⟩, ⟨(by
                  show _ = some (Own.row 9 1 (l ++ [p.take (e + 1)]).length)
                  rw [hB]
                  rfl), trivial⟩, rfl, fun q hq => by rw [hX] at hq; simp at hq⟩
            · have he3 : tagsV s = [] := hend fun q => hq (by
                rw [atN, ← htn, q.2.2.2]
                rfl)
              rw [he3, List.append_nil] at hI
              subst hI
              have hna : ¬ (32 < at' p e ∧ ¬ at' p e = 127) := by omega
              clear hgg hae hend hmore
              repeat' (first
                | with_reducible (first | refine t_seq ?_ | refine t_region ?_ | refine c_nil ?_ | refine n_then ?_ | refine t_ret ?_ | refine t_skip ?_ | refine t_exit ?_ | refine t_block ?_ | refine n_block ?_ | refine e_then ?_ | refine x_then ?_ | refine x_block ?_ | refine t_draw ?_)
                | refine r_val rfl rfl True.intro ?_ | refine r_gskip rfl rfl rfl ?_ | refine r_gskip2 rfl rfl rfl ?_ | refine r_gval rfl rfl rfl rfl True.intro ?_
                | refine t_true rfl ?_ | refine t_false rfl ?_
                | ((first | refine t_cond_d rfl ?_ ?_ | refine t_cond_i rfl ?_ ?_ | refine t_cond_j rfl ?_ ?_ | refine t_cond_s rfl ?_ ?_ | refine t_cond_n rfl ?_ ?_ | refine t_cond rfl ?_ ?_ | refine c_split_d rfl rfl ?_ ?_ | refine c_split_i rfl rfl ?_ ?_ | refine c_split_j rfl rfl ?_ ?_ | refine c_split_s rfl rfl ?_ ?_ | refine c_split_n rfl rfl ?_ ?_) <;> intro <;> try (first | (rename_i hz; exact Bool.noConfusion (show true = false from hz)) | (rename_i hz; exact Bool.noConfusion (show false = true from hz)) | (exfalso; omega)))
                | ((first | refine r_val rfl rfl ?_ ?_ | refine r_gval rfl rfl rfl rfl ?_ ?_ | refine r_obj rfl rfl ?_ ?_ | refine r_sto rfl ?_ ?_ | refine r_gobj rfl rfl rfl rfl ?_ ?_); focus (first | omega | exact Nat.le_of_ble_eq_true rfl | (simp only [wrap_u8, IntKind.wrap_i64, IntKind.wrap_i32, wrap_u32', wrap_u64', InI]; (repeat' refine And.intro ?_ ?_) <;> omega) | ((repeat' refine And.intro ?_ ?_) <;> first | omega | rfl | exact Nat.le_refl _ | exact Nat.le_of_ble_eq_true rfl | exact bytesF_one _) | (simp_all; done) | (simp_all; omega)))
                | refine e_hit rfl ?_ | refine e_miss rfl ?_
                | with_reducible refine ⟨by kernel_rfl, ?_⟩ | refine x_end rfl ?_ | refine n_end rfl ?_ | ((with_reducible refine c_grd ?_); (fail_if_success (refine c_lit true rfl rfl rfl ?_)); (fail_if_success (refine c_lit false rfl rfl rfl ?_)); refine c_split rfl rfl (fun _ => ?_) (fun _ => ?_)))
              all_goals rfl
        · have htn : tagN p = p.length := by omega
          have he3 : tagsV s = [] := hend fun q => by have := q.2.2.1; omega
          rw [he3, List.append_nil] at hI
          subst hI
          clear hend hmore
          repeat' (first
            | with_reducible (first | refine t_seq ?_ | refine t_region ?_ | refine c_nil ?_ | refine n_then ?_ | refine t_ret ?_ | refine t_skip ?_ | refine t_exit ?_ | refine t_block ?_ | refine n_block ?_ | refine e_then ?_ | refine x_then ?_ | refine x_block ?_ | refine t_draw ?_)
            | refine r_val rfl rfl True.intro ?_ | refine r_gskip rfl rfl rfl ?_ | refine r_gskip2 rfl rfl rfl ?_ | refine r_gval rfl rfl rfl rfl True.intro ?_
            | refine t_true rfl ?_ | refine t_false rfl ?_
            | ((first | refine t_cond_d rfl ?_ ?_ | refine t_cond_i rfl ?_ ?_ | refine t_cond_j rfl ?_ ?_ | refine t_cond_s rfl ?_ ?_ | refine t_cond_n rfl ?_ ?_ | refine t_cond rfl ?_ ?_ | refine c_split_d rfl rfl ?_ ?_ | refine c_split_i rfl rfl ?_ ?_ | refine c_split_j rfl rfl ?_ ?_ | refine c_split_s rfl rfl ?_ ?_ | refine c_split_n rfl rfl ?_ ?_) <;> intro <;> try (first | (rename_i hz; exact Bool.noConfusion (show true = false from hz)) | (rename_i hz; exact Bool.noConfusion (show false = true from hz)) | (exfalso; omega)))
            | ((first | refine r_val rfl rfl ?_ ?_ | refine r_gval rfl rfl rfl rfl ?_ ?_ | refine r_obj rfl rfl ?_ ?_ | refine r_sto rfl ?_ ?_ | refine r_gobj rfl rfl rfl rfl ?_ ?_); focus (first | omega | exact Nat.le_of_ble_eq_true rfl | (simp only [wrap_u8, IntKind.wrap_i64, IntKind.wrap_i32, wrap_u32', wrap_u64', InI]; (repeat' refine And.intro ?_ ?_) <;> omega) | ((repeat' refine And.intro ?_ ?_) <;> first | omega | rfl | exact Nat.le_refl _ | exact Nat.le_of_ble_eq_true rfl | exact bytesF_one _) | (simp_all; done) | (simp_all; omega)))
            | refine e_hit rfl ?_ | refine e_miss rfl ?_
            | with_reducible refine ⟨by kernel_rfl, ?_⟩ | refine x_end rfl ?_ | refine n_end rfl ?_ | ((with_reducible refine c_grd ?_); (fail_if_success (refine c_lit true rfl rfl rfl ?_)); (fail_if_success (refine c_lit false rfl rfl rfl ?_)); refine c_split rfl rfl (fun _ => ?_) (fun _ => ?_)))
          all_goals rfl
      · have e : tagsV s = [] := hend fun q => h34 (by
          show ((p.getD 0 0).toNat : Int) = 34
          rw [q.2.1]
          rfl)
        rw [e, List.append_nil] at hI
        subst hI
        repeat' (first
          | with_reducible (first | refine t_seq ?_ | refine t_region ?_ | refine c_nil ?_ | refine n_then ?_ | refine t_ret ?_ | refine t_skip ?_ | refine t_exit ?_ | refine t_block ?_ | refine n_block ?_ | refine e_then ?_ | refine x_then ?_ | refine x_block ?_ | refine t_draw ?_)
          | refine r_val rfl rfl True.intro ?_ | refine r_gskip rfl rfl rfl ?_ | refine r_gskip2 rfl rfl rfl ?_ | refine r_gval rfl rfl rfl rfl True.intro ?_
          | refine t_true rfl ?_ | refine t_false rfl ?_
          | ((first | refine t_cond_d rfl ?_ ?_ | refine t_cond_i rfl ?_ ?_ | refine t_cond_j rfl ?_ ?_ | refine t_cond_s rfl ?_ ?_ | refine t_cond_n rfl ?_ ?_ | refine t_cond rfl ?_ ?_ | refine c_split_d rfl rfl ?_ ?_ | refine c_split_i rfl rfl ?_ ?_ | refine c_split_j rfl rfl ?_ ?_ | refine c_split_s rfl rfl ?_ ?_ | refine c_split_n rfl rfl ?_ ?_) <;> intro <;> try (first | (rename_i hz; exact Bool.noConfusion (show true = false from hz)) | (rename_i hz; exact Bool.noConfusion (show false = true from hz)) | (exfalso; omega)))
          | ((first | refine r_val rfl rfl ?_ ?_ | refine r_gval rfl rfl rfl rfl ?_ ?_ | refine r_obj rfl rfl ?_ ?_ | refine r_sto rfl ?_ ?_ | refine r_gobj rfl rfl rfl rfl ?_ ?_); focus (first | omega | exact Nat.le_of_ble_eq_true rfl | (simp only [wrap_u8, IntKind.wrap_i64, IntKind.wrap_i32, wrap_u32', wrap_u64', InI]; (repeat' refine And.intro ?_ ?_) <;> omega) | ((repeat' refine And.intro ?_ ?_) <;> first | omega | rfl | exact Nat.le_refl _ | exact Nat.le_of_ble_eq_true rfl | exact bytesF_one _) | (simp_all; done) | (simp_all; omega)))
          | refine e_hit rfl ?_ | refine e_miss rfl ?_
          | with_reducible refine ⟨by kernel_rfl, ?_⟩ | refine x_end rfl ?_ | refine n_end rfl ?_ | ((with_reducible refine c_grd ?_); (fail_if_success (refine c_lit true rfl rfl rfl ?_)); (fail_if_success (refine c_lit false rfl rfl rfl ?_)); refine c_split rfl rfl (fun _ => ?_) (fun _ => ?_)))
        all_goals first
          | rfl
          | (exfalso; rename_i hz; exact h0' hz)

end Go.Proofs.YtghdgjabpdfaoaaDoor.Flow

/- REQ: Tags: the program's. A slice of one that is built where many objects lie. -/
namespace Go.Proofs.YtghdgjabpdfaoaaDoor.Flow
open Go

section
variable {X : Ctx} {n : Nat} {all rest : List Oper} {fr : Fr} {ow : Ow} {tr : List (List Nat × List Nat)} {K : Fr → Ow → List (List Nat × List Nat) → Prop}
variable {t : Nat} {ty ty' el : TypeId} {pos : String} {af : Array Edge} {x : Operand} {g : Bool} {by' : Nat}

theorem Rel.sl_same {S : Cells} {w : World} {r : Rho} {z m : Nat} {f g : Nat → List D} {v : Value} (h : ∀ i, i < m → g i = f i) (hr : Rel S w r (.sl z m f) v) : Rel S w r (.sl z m g) v := by
  cases hr with
  | sl _ _ _ _ a cap c hc hm hl hcell hr =>
    exact .sl _ _ _ _ a cap c hc hm (fun i hi => by rw [h i hi]; exact hl i hi) hcell (fun i j hi hj => by rw [h i hi]; exact hr i j hi hj)
theorem Rel.gs_same {S : Cells} {w : World} {r : Rho} {k z m : Nat} {f g : Nat → List D} {v : Value} (h : ∀ i, i < m → g i = f i) (hr : Rel S w r (.gs k z m f) v) : Rel S w r (.gs k z m g) v := by
  cases hr with
  | gs _ _ _ _ _ _ tv L h1 hk hL ht => exact .gs _ _ _ _ _ _ tv L (h1.sl_same h) hk hL ht

/-- A datum told in other words as it is made. -/
theorem StepAt.tell {P : Program} {o : Oper} {F : Nat → D} {O : Nat → Option Own} {d d' : D} {wr : List (Nat × Own)} (h : StepAt P X n o F O d wr) (hd : ∀ S w r v, Rel S w r d v → Rel S w r d' v) : StepAt P X n o F O d' wr := fun a w K Q hr hK =>
  h a w K Q hr fun v w' hrep => hK v w' (by
    obtain ⟨S, r, h1, h2, h3, h4, h5, h6⟩ := hrep
    refine ⟨S, r, h1, h2, fun u => ?_, h4, h5, h6⟩
    have h7 := h3 u
    generalize o.dst = dst at h7
    cases dst with
    | none => exact h7
    | some t0 =>
      by_cases e : u = t0
      · simp only [updF, e, if_true] at h7 ⊢
        exact hd _ _ _ _ h7
      · simp only [updF, e, if_false] at h7 ⊢
        exact h7)

set_option maxRecDepth 100000 in
/-- A slice of one text, under a name that is free by a law. -/
theorem r_bsl1 {s : List UInt8} {z : D} (hty : B.ty ty = .slice el 1 g by') (hz : B.zr el = some z) (hx : ev fr x = .s s) (hk : look t ow = none) (hn : Nat.blt t n = true)
    (h : CT Tryd.prog X n all rest ((t, .gs t 1 1 (wxF [s])) :: fr) ((t, .row el 1 1) :: ow) (tr ++ [([t], [t])]) K) : CT Tryd.prog X n all (⟨some t, .buildSlice ty 1 #[(0, x)], ty', pos, af, none⟩ :: rest) fr ow tr K := by
  have hs : step (tb Tryd.prog) (ev fr) (fun k => look k ow) ⟨some t, .buildSlice ty 1 #[(0, x)], ty', pos, af, none⟩ = some ⟨.gs t 1 1 (chunk 1 [.s s]), ([.s s] : List D).all D.plain = true ∧ 0 < 1 ∧ 1 * 1 ≤ 16777216, [t], [(t, .row el 1 1)]⟩ := by
    rw [tb_eq]
    have e : step B (ev fr) (fun k => look k ow) ⟨some t, .buildSlice ty 1 #[(0, x)], ty', pos, af, none⟩ = buildSliceD false B (fun k => look k ow) (some t) ty 1 [(0, (ev fr x).shutA)] := rfl
    rw [e]
    unfold buildSliceD
    simp only [hty, hz, hx, hk]
    rfl
  exact CT.cons (e := ⟨.gs t 1 1 (wxF [s]), [t], [(t, .row el 1 1)]⟩) (.plain rfl fun F' O' h1 h2 => (step_local (P := Tryd.prog) (X := X) (n := n) hs ⟨rfl, by decide, by decide⟩ (Nat.le_of_ble_eq_true hn) F' O' h1 h2).tell fun S w r v hr => hr.gs_same fun i hi => by
    obtain rfl : i = 0 := by omega
    rfl) (fF_cons ..) (fO_cons ..) h
end

/-! ### Tags -/
def tagsA (vs : List (List UInt8)) : List (List UInt8) × Bool := if vs.any (fun v => decide (v = [42])) = true then ([], true) else (vs.flatMap tagsV, false)
def lsD (r : List (List UInt8) × Bool) : D := .tu [.sl 1 r.1.length (wxF r.1), .b r.2]

theorem tagsV_len : ∀ (n : Nat) (s : List UInt8), s.length ≤ n → (tagsV s).length ≤ s.length
  | 0, s, h => by
    have e : s = [] := List.length_eq_zero_iff.1 (by omega)
    subst e
    rw [tags_end (by decide +kernel)]
    exact Nat.le_refl _
  | n + 1, s, h => by
    by_cases hk : okT (preT s)
    · rw [tags_more hk, List.length_cons]
      have h1 := preT_len s
      have h2 := hk.2.2.1
      have h3 := tagsV_len n ((preT s).drop (tagN (preT s) + 1)) (by rw [List.length_drop]; omega)
      rw [List.length_drop] at h3
      omega
    · rw [tags_end hk]
      exact Nat.zero_le _
theorem catF_wxs (l m : List (List UInt8)) : catF l.length (wxF l) m.length (wxF m) = wxF (l ++ m) := by
  funext j
  unfold catF wxF
  by_cases h : j < l.length
  · rw [if_pos h]
    simp [List.getD_eq_getElem?_getD, List.getElem?_append_left h]
  · rw [if_neg h]
    by_cases h2 : j < l.length + m.length
    · rw [if_pos h2]
      simp [List.getD_eq_getElem?_getD, List.getElem?_append_right (show l.length ≤ j by omega)]
    · rw [if_neg h2]
      simp [List.getD_eq_getElem?_getD, List.getElem?_append_right (show l.length ≤ j by omega)]
      rw [List.getElem?_eq_none (show l.length ≤ j by omega), List.getElem?_eq_none (show m.length ≤ j - l.length by omega)]

set_option maxRecDepth 100000 in
set_option maxHeartbeats 4000000 in
theorem tagsA_ctr (vs : List (List UInt8)) (hl : vs.length ≤ 3000) (hv : ∀ i, (vs.getD i []).length ≤ 100000) : Ctr Tryd.prog 45 [.sl 1 vs.length (wxF vs)] (lsD (tagsA vs)) := by
  refine r_fun Tryd.func45 rfl Tryd.ntmps45 Tryd.results45 rfl rfl fun X hL hX => ?_
  repeat' (first
    | with_reducible (first | refine t_seq ?_ | refine t_region ?_ | refine c_nil ?_ | refine n_then ?_ | refine t_ret ?_ | refine t_skip ?_ | refine t_exit ?_ | refine t_block ?_ | refine n_block ?_ | refine e_then ?_ | refine x_then ?_ | refine x_block ?_ | refine t_draw ?_)
    | refine r_val rfl rfl True.intro ?_ | refine r_gskip rfl rfl rfl ?_ | refine r_gskip2 rfl rfl rfl ?_ | refine r_gval rfl rfl rfl rfl True.intro ?_
    | refine t_true rfl ?_ | refine t_false rfl ?_
    | ((first | refine t_cond_d rfl ?_ ?_ | refine t_cond_i rfl ?_ ?_ | refine t_cond_j rfl ?_ ?_ | refine t_cond_s rfl ?_ ?_ | refine t_cond_n rfl ?_ ?_ | refine t_cond rfl ?_ ?_ | refine c_split_d rfl rfl ?_ ?_ | refine c_split_i rfl rfl ?_ ?_ | refine c_split_j rfl rfl ?_ ?_ | refine c_split_s rfl rfl ?_ ?_ | refine c_split_n rfl rfl ?_ ?_) <;> intro <;> try (first | (rename_i hz; exact Bool.noConfusion (show true = false from hz)) | (rename_i hz; exact Bool.noConfusion (show false = true from hz)) | (exfalso; omega)))
    | ((first | refine r_val rfl rfl ?_ ?_ | refine r_gval rfl rfl rfl rfl ?_ ?_ | refine r_obj rfl rfl ?_ ?_ | refine r_sto rfl ?_ ?_ | refine r_gobj rfl rfl rfl rfl ?_ ?_); focus (first | omega | exact Nat.le_of_ble_eq_true rfl | (simp only [wrap_u8, IntKind.wrap_i64, IntKind.wrap_i32, wrap_u32', wrap_u64', InI]; (repeat' refine And.intro ?_ ?_) <;> omega) | ((repeat' refine And.intro ?_ ?_) <;> first | omega | rfl | exact Nat.le_refl _ | exact Nat.le_of_ble_eq_true rfl | exact bytesF_one _) | (simp_all; done) | (simp_all; omega)))
    | refine e_hit rfl ?_ | refine e_miss rfl ?_
    | with_reducible refine ⟨by kernel_rfl, ?_⟩ | ((with_reducible refine c_grd ?_); (fail_if_success (refine c_lit true rfl rfl rfl ?_)); (fail_if_success (refine c_lit false rfl rfl rfl ?_)); refine c_split rfl rfl (fun _ => ?_) (fun _ => ?_)))
  refine T.loop hL (fun i : Nat => [(0, .sl 1 vs.length (wxF vs)), (2, .nilS), (8, .sl 1 vs.length (wxF vs)), (9, .i .i64 vs.length), (10, .i .i64 i)]) (fun _ => []) (fun i => i ≤ vs.length ∧ (vs.take i).any (fun v => decide (v = [42])) = false) (fun i => vs.length - i) 0 ⟨Nat.zero_le _, by simp⟩
    ⟨⟨rfl, rfl, rfl, rfl, rfl, trivial⟩, trivial, rfl, fun q hq => by rw [hX] at hq; simp at hq⟩ ?_
  rintro i ⟨hi, hany⟩
  by_cases hil : i < vs.length
  · have hst : (vs.take (i + 1)).any (fun v => decide (v = [42])) = ((vs.take i).any (fun v => decide (v = [42])) || decide (vs.getD i [] = [42])) := by
      rw [List.take_add_one, List.any_append]
      congr 1
      have : vs[i]? = some (vs.getD i []) := by simp [List.getD_eq_getElem?_getD, hil]
      rw [this]
      simp
    have hnat : (i : Int).toNat = i := Int.toNat_natCast i
    by_cases hs : vs.getD i [] = [42]
    · have hT : tagsA vs = ([], true) := if_pos (List.any_eq_true.2 ⟨vs.getD i [], by
        rw [List.getD_eq_getElem?_getD, List.getElem?_eq_getElem hil, Option.getD_some]
        exact List.getElem_mem hil, by simpa using hs⟩)
      have hs' : vs.getD (i : Int).toNat [] = [42] := by rw [hnat]; exact hs
      rw [hT]
      repeat' (first
        | with_reducible (first | refine t_seq ?_ | refine t_region ?_ | refine c_nil ?_ | refine n_then ?_ | refine t_ret ?_ | refine t_skip ?_ | refine t_exit ?_ | refine t_block ?_ | refine n_block ?_ | refine e_then ?_ | refine x_then ?_ | refine x_block ?_ | refine t_draw ?_)
        | refine r_val rfl rfl True.intro ?_ | refine r_gskip rfl rfl rfl ?_ | refine r_gskip2 rfl rfl rfl ?_ | refine r_gval rfl rfl rfl rfl True.intro ?_
        | refine t_true rfl ?_ | refine t_false rfl ?_
        | ((first | refine t_cond_d rfl ?_ ?_ | refine t_cond_i rfl ?_ ?_ | refine t_cond_j rfl ?_ ?_ | refine t_cond_s rfl ?_ ?_ | refine t_cond_n rfl ?_ ?_ | refine t_cond rfl ?_ ?_ | refine c_split_d rfl rfl ?_ ?_ | refine c_split_i rfl rfl ?_ ?_ | refine c_split_j rfl rfl ?_ ?_ | refine c_split_s rfl rfl ?_ ?_ | refine c_split_n rfl rfl ?_ ?_) <;> intro <;> try (first | (rename_i hz; exact Bool.noConfusion (show true = false from hz)) | (rename_i hz; exact Bool.noConfusion (show false = true from hz)) | (exfalso; omega)))
        | ((first | refine r_val rfl rfl ?_ ?_ | refine r_gval rfl rfl rfl rfl ?_ ?_ | refine r_obj rfl rfl ?_ ?_ | refine r_sto rfl ?_ ?_ | refine r_gobj rfl rfl rfl rfl ?_ ?_); focus (first | omega | exact Nat.le_of_ble_eq_true rfl | (simp only [wrap_u8, IntKind.wrap_i64, IntKind.wrap_i32, wrap_u32', wrap_u64', InI]; (repeat' refine And.intro ?_ ?_) <;> omega) | ((repeat' refine And.intro ?_ ?_) <;> first | omega | rfl | exact Nat.le_refl _ | exact Nat.le_of_ble_eq_true rfl | exact bytesF_one _) | (simp_all; done) | (simp_all; omega)))
        | refine e_hit rfl ?_ | refine e_miss rfl ?_
        | with_reducible refine ⟨by kernel_rfl, ?_⟩ | refine x_endw rfl ?_ | refine n_endw rfl ?_ | ((with_reducible refine c_grd ?_); (fail_if_success (refine c_lit true rfl rfl rfl ?_)); (fail_if_success (refine c_lit false rfl rfl rfl ?_)); refine c_split rfl rfl (fun _ => ?_) (fun _ => ?_)))
      · exact .tu2 (.nil 1 _) (.refl _)
      · rename_i hz
        exact absurd hs' hz
    · have hs' : ¬ vs.getD (i : Int).toNat [] = [42] := by rw [hnat]; exact hs
      repeat' (first
        | with_reducible (first | refine t_seq ?_ | refine t_region ?_ | refine c_nil ?_ | refine n_then ?_ | refine t_ret ?_ | refine t_skip ?_ | refine t_exit ?_ | refine t_block ?_ | refine n_block ?_ | refine e_then ?_ | refine x_then ?_ | refine x_block ?_ | refine t_draw ?_)
        | refine r_val rfl rfl True.intro ?_ | refine r_gskip rfl rfl rfl ?_ | refine r_gskip2 rfl rfl rfl ?_ | refine r_gval rfl rfl rfl rfl True.intro ?_
        | refine t_true rfl ?_ | refine t_false rfl ?_
        | ((first | refine t_cond_d rfl ?_ ?_ | refine t_cond_i rfl ?_ ?_ | refine t_cond_j rfl ?_ ?_ | refine t_cond_s rfl ?_ ?_ | refine t_cond_n rfl ?_ ?_ | refine t_cond rfl ?_ ?_ | refine c_split_d rfl rfl ?_ ?_ | refine c_split_i rfl rfl ?_ ?_ | refine c_split_j rfl rfl ?_ ?_ | refine c_split_s rfl rfl ?_ ?_ | refine c_split_n rfl rfl ?_ ?_) <;> intro <;> try (first | (rename_i hz; exact Bool.noConfusion (show true = false from hz)) | (rename_i hz; exact Bool.noConfusion (show false = true from hz)) | (exfalso; omega)))
        | ((first | refine r_val rfl rfl ?_ ?_ | refine r_gval rfl rfl rfl rfl ?_ ?_ | refine r_obj rfl rfl ?_ ?_ | refine r_sto rfl ?_ ?_ | refine r_gobj rfl rfl rfl rfl ?_ ?_); focus (first | omega | exact Nat.le_of_ble_eq_true rfl | (simp only [wrap_u8, IntKind.wrap_i64, IntKind.wrap_i32, wrap_u32', wrap_u64', InI]; (repeat' refine And.intro ?_ ?_) <;> omega) | ((repeat' refine And.intro ?_ ?_) <;> first | omega | rfl | exact Nat.le_refl _ | exact Nat.le_of_ble_eq_true rfl | exact bytesF_one _) | (simp_all; done) | (simp_all; omega)))
        | refine e_hit rfl ?_ | refine e_miss rfl ?_
        | with_reducible refine ⟨by kernel_rfl, ?_⟩ | refine x_endw rfl ?_ | refine n_endw rfl ?_ | ((with_reducible refine c_grd ?_); (fail_if_success (refine c_lit true rfl rfl rfl ?_)); (fail_if_success (refine c_lit false rfl rfl rfl ?_)); refine c_split rfl rfl (fun _ => ?_) (fun _ => ?_)))
      · rename_i hz
        exact absurd hz hs'
      · exact ⟨i + 1, ⟨by omega, by rw [hst, hany, decide_eq_false hs]; rfl⟩, by omega, ⟨rfl, rfl, rfl, rfl, congrArg (D.i .i64) (by omega), trivial⟩, trivial, rfl, fun q hq => by rw [hX] at hq; simp at hq⟩
  · have : i = vs.length := by omega
    subst this
    rw [List.take_length] at hany
    have hT : tagsA vs = (vs.flatMap tagsV, false) := if_neg (by rw [hany]; exact Bool.false_ne_true)
    rw [hT]
    repeat' (first
      | with_reducible (first | refine t_seq ?_ | refine t_region ?_ | refine c_nil ?_ | refine n_then ?_ | refine t_ret ?_ | refine t_skip ?_ | refine t_exit ?_ | refine t_block ?_ | refine n_block ?_ | refine e_then ?_ | refine x_then ?_ | refine x_block ?_ | refine t_draw ?_)
      | refine r_val rfl rfl True.intro ?_ | refine r_gskip rfl rfl rfl ?_ | refine r_gskip2 rfl rfl rfl ?_ | refine r_gval rfl rfl rfl rfl True.intro ?_
      | refine t_true rfl ?_ | refine t_false rfl ?_
      | ((first | refine t_cond_d rfl ?_ ?_ | refine t_cond_i rfl ?_ ?_ | refine t_cond_j rfl ?_ ?_ | refine t_cond_s rfl ?_ ?_ | refine t_cond_n rfl ?_ ?_ | refine t_cond rfl ?_ ?_ | refine c_split_d rfl rfl ?_ ?_ | refine c_split_i rfl rfl ?_ ?_ | refine c_split_j rfl rfl ?_ ?_ | refine c_split_s rfl rfl ?_ ?_ | refine c_split_n rfl rfl ?_ ?_) <;> intro <;> try (first | (rename_i hz; exact Bool.noConfusion (show true = false from hz)) | (rename_i hz; exact Bool.noConfusion (show false = true from hz)) | (exfalso; omega)))
      | ((first | refine r_val rfl rfl ?_ ?_ | refine r_gval rfl rfl rfl rfl ?_ ?_ | refine r_obj rfl rfl ?_ ?_ | refine r_sto rfl ?_ ?_ | refine r_gobj rfl rfl rfl rfl ?_ ?_); focus (first | omega | exact Nat.le_of_ble_eq_true rfl | (simp only [wrap_u8, IntKind.wrap_i64, IntKind.wrap_i32, wrap_u32', wrap_u64', InI]; (repeat' refine And.intro ?_ ?_) <;> omega) | ((repeat' refine And.intro ?_ ?_) <;> first | omega | rfl | exact Nat.le_refl _ | exact Nat.le_of_ble_eq_true rfl | exact bytesF_one _) | (simp_all; done) | (simp_all; omega)))
      | refine e_hit rfl ?_ | refine e_miss rfl ?_
      | with_reducible refine ⟨by kernel_rfl, ?_⟩ | ((with_reducible refine c_grd ?_); (fail_if_success (refine c_lit true rfl rfl rfl ?_)); (fail_if_success (refine c_lit false rfl rfl rfl ?_)); refine c_split rfl rfl (fun _ => ?_) (fun _ => ?_)))
    refine T.adopt 2 2 9 1 (wxF []) rfl rfl ?_
    refine T.loop hL (fun i : Nat => [(2, .gs 2 1 ((vs.take i).flatMap tagsV).length (wxF ((vs.take i).flatMap tagsV))), (17, .sl 1 vs.length (wxF vs)), (18, .i .i64 vs.length), (19, .i .i64 i)]) (fun i => [(2, .row 9 1 ((vs.take i).flatMap tagsV).length)]) (fun i => i ≤ vs.length ∧ ((vs.take i).flatMap tagsV).length ≤ i * 100000) (fun i => vs.length - i) 0 ⟨Nat.zero_le _, Nat.zero_le _⟩
      ⟨⟨rfl, rfl, rfl, rfl, trivial⟩, ⟨rfl, trivial⟩, rfl, fun q hq => by rw [hX] at hq; simp at hq⟩ ?_
    rintro i ⟨hi, hsz⟩
    by_cases hil : i < vs.length
    · have hst : (vs.take (i + 1)).flatMap tagsV = (vs.take i).flatMap tagsV ++ tagsV (vs.getD i []) := by
        rw [List.take_add_one, List.flatMap_append]
        congr 1
        have : vs[i]? = some (vs.getD i []) := by simp [List.getD_eq_getElem?_getD, hil]
        rw [this]
        simp
      have c1 := tags_ctr (vs.getD (i : Int).toNat []) (by have := hv (i : Int).toNat; omega)
      have hl1 := tagsV_len _ _ (Nat.le_refl (vs.getD (i : Int).toNat []).length)
      have hv1 := hv (i : Int).toNat
      have hnat : (i : Int).toNat = i := Int.toNat_natCast i
      have hcat := catF_wxs ((vs.take i).flatMap tagsV) (tagsV (vs.getD (i : Int).toNat []))
      rw [hnat] at hcat
      rw [← hst] at hcat
      have hln : ((vs.take (i + 1)).flatMap tagsV).length = ((vs.take i).flatMap tagsV).length + (tagsV (vs.getD i [])).length := by rw [hst, List.length_append]
      repeat' (first
        | refine r_call (f := 69) rfl rfl Tryd.call69 rfl c1 ?_
        | with_reducible (first | refine t_seq ?_ | refine t_region ?_ | refine c_nil ?_ | refine n_then ?_ | refine t_ret ?_ | refine t_skip ?_ | refine t_exit ?_ | refine t_block ?_ | refine n_block ?_ | refine e_then ?_ | refine x_then ?_ | refine x_block ?_ | refine t_draw ?_)
        | refine r_val rfl rfl True.intro ?_ | refine r_gskip rfl rfl rfl ?_ | refine r_gskip2 rfl rfl rfl ?_ | refine r_gval rfl rfl rfl rfl True.intro ?_
        | refine t_true rfl ?_ | refine t_false rfl ?_
        | ((first | refine t_cond_d rfl ?_ ?_ | refine t_cond_i rfl ?_ ?_ | refine t_cond_j rfl ?_ ?_ | refine t_cond_s rfl ?_ ?_ | refine t_cond_n rfl ?_ ?_ | refine t_cond rfl ?_ ?_ | refine c_split_d rfl rfl ?_ ?_ | refine c_split_i rfl rfl ?_ ?_ | refine c_split_j rfl rfl ?_ ?_ | refine c_split_s rfl rfl ?_ ?_ | refine c_split_n rfl rfl ?_ ?_) <;> intro <;> try (first | (rename_i hz; exact Bool.noConfusion (show true = false from hz)) | (rename_i hz; exact Bool.noConfusion (show false = true from hz)) | (exfalso; omega)))
        | ((first | refine r_val rfl rfl ?_ ?_ | refine r_gval rfl rfl rfl rfl ?_ ?_ | refine r_obj rfl rfl ?_ ?_ | refine r_sto rfl ?_ ?_ | refine r_gobj rfl rfl rfl rfl ?_ ?_); focus (first | omega | exact Nat.le_of_ble_eq_true rfl | (simp only [wrap_u8, IntKind.wrap_i64, IntKind.wrap_i32, wrap_u32', wrap_u64', InI]; (repeat' refine And.intro ?_ ?_) <;> omega) | ((repeat' refine And.intro ?_ ?_) <;> first | omega | rfl | exact Nat.le_refl _ | exact Nat.le_of_ble_eq_true rfl | exact bytesF_one _) | (simp_all; done) | (simp_all; omega)))
        | refine e_hit rfl ?_ | refine e_miss rfl ?_
        | with_reducible refine ⟨by kernel_rfl, ?_⟩ | refine x_endw rfl ?_ | refine n_endw rfl ?_ | ((with_reducible refine c_grd ?_); (fail_if_success (refine c_lit true rfl rfl rfl ?_)); (fail_if_success (refine c_lit false rfl rfl rfl ?_)); refine c_split rfl rfl (fun _ => ?_) (fun _ => ?_)))
      rw [hnat] at hl1 hv1
      exact ⟨i + 1, ⟨by omega, by rw [hln]; omega⟩, by omega, ⟨(by
        show D.gs 2 1 (((vs.take i).flatMap tagsV).length + (tagsV (vs.getD i [])).length) (catF ((vs.take i).flatMap tagsV).length (wxF ((vs.take i).flatMap tagsV)) (tagsV (vs.getD i [])).length (wxF (tagsV (vs.getD i [])))) = _
        rw [hcat, ← hln]), rfl, rfl, congrArg (D.i .i64) (by omega), trivial⟩, ⟨(by
        show _ = some (Own.row 9 1 ((vs.take (i + 1)).flatMap tagsV).length)
        rw [hln]
        rfl), trivial⟩, rfl, fun q hq => by rw [hX] at hq; simp at hq⟩
    · have : i = vs.length := by omega
      subst this
      rw [List.take_length]
      repeat' (first
        | with_reducible (first | refine t_seq ?_ | refine t_region ?_ | refine c_nil ?_ | refine n_then ?_ | refine t_ret ?_ | refine t_skip ?_ | refine t_exit ?_ | refine t_block ?_ | refine n_block ?_ | refine e_then ?_ | refine x_then ?_ | refine x_block ?_ | refine t_draw ?_)
        | refine r_val rfl rfl True.intro ?_ | refine r_gskip rfl rfl rfl ?_ | refine r_gskip2 rfl rfl rfl ?_ | refine r_gval rfl rfl rfl rfl True.intro ?_
        | refine t_true rfl ?_ | refine t_false rfl ?_
        | ((first | refine t_cond_d rfl ?_ ?_ | refine t_cond_i rfl ?_ ?_ | refine t_cond_j rfl ?_ ?_ | refine t_cond_s rfl ?_ ?_ | refine t_cond_n rfl ?_ ?_ | refine t_cond rfl ?_ ?_ | refine c_split_d rfl rfl ?_ ?_ | refine c_split_i rfl rfl ?_ ?_ | refine c_split_j rfl rfl ?_ ?_ | refine c_split_s rfl rfl ?_ ?_ | refine c_split_n rfl rfl ?_ ?_) <;> intro <;> try (first | (rename_i hz; exact Bool.noConfusion (show true = false from hz)) | (rename_i hz; exact Bool.noConfusion (show false = true from hz)) | (exfalso; omega)))
        | ((first | refine r_val rfl rfl ?_ ?_ | refine r_gval rfl rfl rfl rfl ?_ ?_ | refine r_obj rfl rfl ?_ ?_ | refine r_sto rfl ?_ ?_ | refine r_gobj rfl rfl rfl rfl ?_ ?_); focus (first | omega | exact Nat.le_of_ble_eq_true rfl | (simp only [wrap_u8, IntKind.wrap_i64, IntKind.wrap_i32, wrap_u32', wrap_u64', InI]; (repeat' refine And.intro ?_ ?_) <;> omega) | ((repeat' refine And.intro ?_ ?_) <;> first | omega | rfl | exact Nat.le_refl _ | exact Nat.le_of_ble_eq_true rfl | exact bytesF_one _) | (simp_all; done) | (simp_all; omega)))
        | refine e_hit rfl ?_ | refine e_miss rfl ?_
        | with_reducible refine ⟨by kernel_rfl, ?_⟩ | refine x_end rfl ?_ | refine n_end rfl ?_ | ((with_reducible refine c_grd ?_); (fail_if_success (refine c_lit true rfl rfl rfl ?_)); (fail_if_success (refine c_lit false rfl rfl rfl ?_)); refine c_split rfl rfl (fun _ => ?_) (fun _ => ?_)))
      all_goals rfl

end Go.Proofs.YtghdgjabpdfaoaaDoor.Flow

/- REQ: Parse: the program's. -/
namespace Go.Proofs.YtghdgjabpdfaoaaDoor.Flow
open Go

def inmK : List UInt8 := [105, 102, 45, 110, 111, 110, 101, 45, 109, 97, 116, 99, 104]
def aceK : List UInt8 := [97, 99, 99, 101, 112, 116, 45, 101, 110, 99, 111, 100, 105, 110, 103]
/-- Headers, by names. -/
def hdsP (hs : Hdl) : List (List UInt8) → Option Hdl
  | [] => some hs
  | s :: r => if (hdrP s).2.2 = true then hdsP (addH (hdrP s).1 (hdrP s).2.1 hs) r else none
abbrev Rq := List UInt8 × List UInt8 × Bool × Bool × List (List UInt8)
def parP (b : List UInt8) : Option Rq := match linP b with
  | none => none
  | some l => if (firP (l.getD 0 [])).2.2 = true then
      match hdsP [] (l.drop 1) with
      | none => none
      | some hs => if rightH hs = true then some ((firP (l.getD 0 [])).1, (Lib.cut (firP (l.getD 0 [])).2.1 [63]).1, accV (getH aceK hs), (tagsA (getH inmK hs)).2, (tagsA (getH inmK hs)).1) else none
    else none
def rq0 : List D := [.s [], .s [], .b false, .b false, .nilS]
def rqD : Option Rq → D
  | some (m, p, g, a, t) => .tu [.ag [.s m, .s p, .b g, .b a, .sl 1 t.length (wxF t)], .b true]
  | none => .tu [.ag rq0, .b false]

theorem hds_at {l : List (List UInt8)} {hs : Hdl} {i : Nat} (h : 1 + i < l.length) : hdsP hs (l.drop (1 + i)) = if (hdrP (l.getD (1 + i) [])).2.2 = true then hdsP (addH (hdrP (l.getD (1 + i) [])).1 (hdrP (l.getD (1 + i) [])).2.1 hs) (l.drop (1 + (i + 1))) else none := by
  rw [List.drop_eq_getElem_cons h]
  have : l[1 + i] = l.getD (1 + i) [] := by simp [List.getD_eq_getElem?_getD, h]
  rw [this]
  rfl
theorem getH_le {key : List UInt8} {n : Nat} : ∀ {hs : Hdl}, (∀ p ∈ hs, p.2.length ≤ n) → (getH key hs).length ≤ n
  | [], _ => Nat.zero_le _
  | p :: r, h => by
    unfold getH
    by_cases e : p.1 = key
    · rw [if_pos e]
      exact h p (by simp)
    · rw [if_neg e]
      exact getH_le fun p hp => h p (by simp [hp])
theorem addH_le {k2 v : List UInt8} {n : Nat} : ∀ {hs : Hdl}, (∀ p ∈ hs, p.2.length ≤ n) → ∀ p ∈ addH k2 v hs, p.2.length ≤ n + 1
  | [], _, p, hp => by
    simp [addH] at hp
    subst hp
    simp
  | x :: r, h, p, hp => by
    unfold addH at hp
    by_cases e : x.1 = k2
    · rw [if_pos e] at hp
      rcases List.mem_cons.1 hp with rfl | hp
      · have := h x (by simp)
        simp
        omega
      · have := h p (by simp [hp])
        omega
    · rw [if_neg e] at hp
      rcases List.mem_cons.1 hp with rfl | hp
      · have := h _ (List.mem_cons_self ..)
        omega
      · exact addH_le (fun p hp => h p (by simp [hp])) p hp
theorem getD_le {n : Nat} {hs : Hdl} (h : ∀ p ∈ hs, p.2.length ≤ n) (j : Nat) : (hs.getD j ([], [])).2.length ≤ n := by
  by_cases hj : j < hs.length
  · rw [List.getD_eq_getElem?_getD, List.getElem?_eq_getElem hj, Option.getD_some]
    exact h _ (List.getElem_mem hj)
  · rw [List.getD_eq_getElem?_getD, List.getElem?_eq_none (by omega)]
    exact Nat.zero_le _
theorem getH_mem {key : List UInt8} {q : List UInt8 → Prop} (h0 : q []) : ∀ {hs : Hdl}, (∀ p ∈ hs, ∀ v ∈ p.2, q v) → ∀ i, q ((getH key hs).getD i [])
  | [], _, i => by simpa [getH] using h0
  | p :: r, h, i => by
    unfold getH
    by_cases e : p.1 = key
    · rw [if_pos e]
      by_cases hi : i < p.2.length
      · rw [List.getD_eq_getElem?_getD, List.getElem?_eq_getElem hi, Option.getD_some]
        exact h p (by simp) _ (List.getElem_mem hi)
      · rw [List.getD_eq_getElem?_getD, List.getElem?_eq_none (by omega)]
        exact h0
    · rw [if_neg e]
      exact getH_mem h0 (fun p hp => h p (by simp [hp])) i
theorem addH_mem {k2 v : List UInt8} {q : List UInt8 → Prop} (hv : q v) : ∀ {hs : Hdl}, (∀ p ∈ hs, ∀ v ∈ p.2, q v) → ∀ p ∈ addH k2 v hs, ∀ v ∈ p.2, q v
  | [], _, p, hp, u, hu => by
    simp [addH] at hp
    subst hp
    simp at hu
    subst hu
    exact hv
  | x :: r, h, p, hp, u, hu => by
    unfold addH at hp
    by_cases e : x.1 = k2
    · rw [if_pos e] at hp
      rcases List.mem_cons.1 hp with rfl | hp
      · rcases List.mem_append.1 hu with hu | hu
        · exact h x (by simp) u hu
        · simp at hu
          subst hu
          exact hv
      · exact h p (by simp [hp]) u hu
    · rw [if_neg e] at hp
      rcases List.mem_cons.1 hp with rfl | hp
      · exact h _ (by simp) u hu
      · exact addH_mem hv (fun p hp => h p (by simp [hp])) p hp u hu
theorem hdr_len (s : List UInt8) : (hdrP s).2.1.length ≤ s.length := by
  unfold hdrP
  split
  · have h1 := trim_len (Lib.cut s [58]).2.1 bl
    have h2 := (cut_len s [58]).2
    dsimp only
    omega
  · exact Nat.zero_le _
theorem fir_len (s : List UInt8) : (firP s).1.length ≤ s.length ∧ (firP s).2.1.length ≤ s.length := by
  unfold firP
  split
  · have h1 := cut_len s [32]
    have h2 := cut_len (Lib.cut s [32]).2.1 [32]
    dsimp only
    omega
  · exact ⟨Nat.zero_le _, Nat.zero_le _⟩

section
variable {X : Ctx} {n : Nat} {all rest : List Oper} {fr : Fr} {ow : Ow} {tr : List (List Nat × List Nat)} {K : Fr → Ow → List (List Nat × List Nat) → Prop}
variable {t k : Nat} {ty ty' kt et : TypeId} {ps : String} {af : Array Edge} {x y : Operand} {es : Ents} {key : List UInt8} {d : D}
/-- A key's value, or its type's nought. -/
theorem r_mgot (hm : Tryd.prog.underlying ty = some (.map kt et)) (hkt : Tryd.prog.underlying kt = some .string) (hx : ev fr x = .mh k) (hy : ev fr y = .s key) (hk : look k ow = some (.mp es)) (hg : mget key es = some d ∨ (mget key es = none ∧ B.zr et = some d)) (hn : Nat.blt t n = true)
    (h : CT Tryd.prog X n all rest ((t, d) :: fr) ow (tr ++ [([k], [])]) K) : CT Tryd.prog X n all (⟨some t, .lookup ty x y false, ty', ps, af, none⟩ :: rest) fr ow tr K := by
  rcases hg with hg | ⟨hg, hz⟩
  · exact r_mhit hm hkt hx hy hk hg hn h
  · exact r_mmiss hm hkt hz hx hy hk hg hn h
end

/-- The objects: the map, the answer, the lists. -/
abbrev pOw8 (hs : Hdl) : Ow := (38, .mp (entsGo 0 hs)) :: (2, .var rq0) :: rowsGo 0 hs
theorem ok_loop {fr : Fr} {hs : Hdl} (h : ∀ r : List Nat, fr.all (fun x => x.2.okIn (38 :: 2 :: r)) = true) : okAll (38 :: 2 :: (rowsGo 0 hs).map (·.1)) fr (pOw8 hs) = true := by
  unfold okAll
  rw [h, Bool.true_and, List.all_cons, List.all_cons, ents_okIn fun i hi => by
    rw [rows_ids]
    refine List.mem_cons_of_mem _ (List.mem_cons_of_mem _ (List.mem_map.2 ⟨0 + i, ?_, rfl⟩))
    simp [List.mem_range']
    omega, rows_okIn]
  rfl

set_option maxRecDepth 100000 in
set_option maxHeartbeats 4000000 in
theorem parse_ctr (b : List UInt8) (hb : b.length ≤ 2000) : Ctr Tryd.prog 19 [.sl 1 b.length (bytesF b)] (rqD (parP b)) := by
  have c1 := lines_ctr b (by omega)
  refine r_fun Tryd.func19 rfl Tryd.ntmps19 Tryd.results19 rfl (by unfold rqD; split <;> rfl) fun X hL hX => ?_
  cases hl : linP b with
  | none =>
    rw [hl] at c1
    have e : parP b = none := by unfold parP; rw [hl]
    rw [e]
    repeat' (first
      | refine r_call (f := 40) rfl rfl Tryd.call40 rfl c1 ?_
      | with_reducible (first | refine t_seq ?_ | refine t_region ?_ | refine c_nil ?_ | refine n_then ?_ | refine t_ret ?_ | refine t_skip ?_ | refine t_exit ?_ | refine t_block ?_ | refine n_block ?_ | refine e_then ?_ | refine x_then ?_ | refine x_block ?_ | refine t_draw ?_)
      | refine r_val rfl rfl True.intro ?_ | refine r_gskip rfl rfl rfl ?_ | refine r_gskip2 rfl rfl rfl ?_ | refine r_gval rfl rfl rfl rfl True.intro ?_
      | refine t_true rfl ?_ | refine t_false rfl ?_
      | ((first | refine t_cond_d rfl ?_ ?_ | refine t_cond_i rfl ?_ ?_ | refine t_cond_j rfl ?_ ?_ | refine t_cond_s rfl ?_ ?_ | refine t_cond_n rfl ?_ ?_ | refine t_cond rfl ?_ ?_ | refine c_split_d rfl rfl ?_ ?_ | refine c_split_i rfl rfl ?_ ?_ | refine c_split_j rfl rfl ?_ ?_ | refine c_split_s rfl rfl ?_ ?_ | refine c_split_n rfl rfl ?_ ?_) <;> intro <;> try (first | (rename_i hz; exact Bool.noConfusion (show true = false from hz)) | (rename_i hz; exact Bool.noConfusion (show false = true from hz)) | (exfalso; omega)))
      | ((first | refine r_val rfl rfl ?_ ?_ | refine r_gval rfl rfl rfl rfl ?_ ?_ | refine r_obj rfl rfl ?_ ?_ | refine r_sto rfl ?_ ?_ | refine r_gobj rfl rfl rfl rfl ?_ ?_); focus (first | omega | exact Nat.le_of_ble_eq_true rfl | (simp only [wrap_u8, IntKind.wrap_i64, IntKind.wrap_i32, wrap_u32', wrap_u64', InI]; (repeat' refine And.intro ?_ ?_) <;> omega) | ((repeat' refine And.intro ?_ ?_) <;> first | omega | rfl | exact Nat.le_refl _ | exact Nat.le_of_ble_eq_true rfl | exact bytesF_one _) | (simp_all; done) | (simp_all; omega)))
      | refine e_hit rfl ?_ | refine e_miss rfl ?_
      | with_reducible refine ⟨by kernel_rfl, ?_⟩ | refine x_end rfl ?_ | refine n_end rfl ?_ | ((with_reducible refine c_grd ?_); (fail_if_success (refine c_lit true rfl rfl rfl ?_)); (fail_if_success (refine c_lit false rfl rfl rfl ?_)); refine c_split rfl rfl (fun _ => ?_) (fun _ => ?_)))
    all_goals rfl
  | some l =>
    rw [hl] at c1
    have e : parP b = if (firP (l.getD 0 [])).2.2 = true then
      match hdsP [] (l.drop 1) with
      | none => none
      | some hs => if rightH hs = true then some ((firP (l.getD 0 [])).1, (Lib.cut (firP (l.getD 0 [])).2.1 [63]).1, accV (getH aceK hs), (tagsA (getH inmK hs)).2, (tagsA (getH inmK hs)).1) else none
      else none := by unfold parP; rw [hl]
    have hl2 : 0 < l.length ∧ l.length ≤ 2000 ∧ ∀ j, (l.getD j []).length ≤ 2000 := by
      unfold linP at hl
      split at hl
      · split at hl
        · cases hl
          have h1 := splitL_len (b.take (b.length - 4)) crlf (by decide)
          have h2 := split_piece (b.take (b.length - 4)) crlf
          rw [List.length_take] at h1 h2
          rename_i h3 _
          have h4 := sfx_iff4 h3.2
          have h4 : 4 ≤ b.length := h4
          exact ⟨by omega, by omega, fun j => by have := h2 j; omega⟩
        · cases hl
      · cases hl
    obtain ⟨hl0, hl1, hlj⟩ := hl2
    have c2 := first_ctr (l.getD 0 []) (by have := hlj 0; omega)
    have f1 := fir_len (l.getD 0 [])
    have f2 := hlj 0
    rw [e]
    generalize firP (l.getD 0 []) = F at *
    obtain ⟨mt, tg, ok⟩ := F
    dsimp only at f1 ⊢
    cases ok with
    | false =>
      repeat' (first
        | refine r_call (f := 40) rfl rfl Tryd.call40 rfl c1 ?_ | refine r_call (f := 41) rfl rfl Tryd.call41 rfl c2 ?_
        | with_reducible (first | refine t_seq ?_ | refine t_region ?_ | refine c_nil ?_ | refine n_then ?_ | refine t_ret ?_ | refine t_skip ?_ | refine t_exit ?_ | refine t_block ?_ | refine n_block ?_ | refine e_then ?_ | refine x_then ?_ | refine x_block ?_ | refine t_draw ?_)
        | refine r_val rfl rfl True.intro ?_ | refine r_gskip rfl rfl rfl ?_ | refine r_gskip2 rfl rfl rfl ?_ | refine r_gval rfl rfl rfl rfl True.intro ?_
        | refine t_true rfl ?_ | refine t_false rfl ?_
        | ((first | refine t_cond_d rfl ?_ ?_ | refine t_cond_i rfl ?_ ?_ | refine t_cond_j rfl ?_ ?_ | refine t_cond_s rfl ?_ ?_ | refine t_cond_n rfl ?_ ?_ | refine t_cond rfl ?_ ?_ | refine c_split_d rfl rfl ?_ ?_ | refine c_split_i rfl rfl ?_ ?_ | refine c_split_j rfl rfl ?_ ?_ | refine c_split_s rfl rfl ?_ ?_ | refine c_split_n rfl rfl ?_ ?_) <;> intro <;> try (first | (rename_i hz; exact Bool.noConfusion (show true = false from hz)) | (rename_i hz; exact Bool.noConfusion (show false = true from hz)) | (exfalso; omega)))
        | ((first | refine r_val rfl rfl ?_ ?_ | refine r_gval rfl rfl rfl rfl ?_ ?_ | refine r_obj rfl rfl ?_ ?_ | refine r_sto rfl ?_ ?_ | refine r_gobj rfl rfl rfl rfl ?_ ?_); focus (first | omega | exact Nat.le_of_ble_eq_true rfl | (simp only [wrap_u8, IntKind.wrap_i64, IntKind.wrap_i32, wrap_u32', wrap_u64', InI]; (repeat' refine And.intro ?_ ?_) <;> omega) | ((repeat' refine And.intro ?_ ?_) <;> first | omega | rfl | exact Nat.le_refl _ | exact Nat.le_of_ble_eq_true rfl | exact bytesF_one _) | (simp_all; done) | (simp_all; omega)))
        | refine e_hit rfl ?_ | refine e_miss rfl ?_
        | with_reducible refine ⟨by kernel_rfl, ?_⟩ | refine x_end rfl ?_ | refine n_end rfl ?_ | ((with_reducible refine c_grd ?_); (fail_if_success (refine c_lit true rfl rfl rfl ?_)); (fail_if_success (refine c_lit false rfl rfl rfl ?_)); refine c_split rfl rfl (fun _ => ?_) (fun _ => ?_)))
      all_goals rfl
    | true =>
      repeat' (first
        | refine r_call (f := 40) rfl rfl Tryd.call40 rfl c1 ?_ | refine r_call (f := 41) rfl rfl Tryd.call41 rfl c2 ?_ | refine r_mnew rfl rfl ?_
        | with_reducible (first | refine t_seq ?_ | refine t_region ?_ | refine c_nil ?_ | refine n_then ?_ | refine t_ret ?_ | refine t_skip ?_ | refine t_exit ?_ | refine t_block ?_ | refine n_block ?_ | refine e_then ?_ | refine x_then ?_ | refine x_block ?_ | refine t_draw ?_)
        | refine r_val rfl rfl True.intro ?_ | refine r_gskip rfl rfl rfl ?_ | refine r_gskip2 rfl rfl rfl ?_ | refine r_gval rfl rfl rfl rfl True.intro ?_
        | refine t_true rfl ?_ | refine t_false rfl ?_
        | ((first | refine t_cond_d rfl ?_ ?_ | refine t_cond_i rfl ?_ ?_ | refine t_cond_j rfl ?_ ?_ | refine t_cond_s rfl ?_ ?_ | refine t_cond_n rfl ?_ ?_ | refine t_cond rfl ?_ ?_ | refine c_split_d rfl rfl ?_ ?_ | refine c_split_i rfl rfl ?_ ?_ | refine c_split_j rfl rfl ?_ ?_ | refine c_split_s rfl rfl ?_ ?_ | refine c_split_n rfl rfl ?_ ?_) <;> intro <;> try (first | (rename_i hz; exact Bool.noConfusion (show true = false from hz)) | (rename_i hz; exact Bool.noConfusion (show false = true from hz)) | (exfalso; omega)))
        | ((first | refine r_val rfl rfl ?_ ?_ | refine r_gval rfl rfl rfl rfl ?_ ?_ | refine r_obj rfl rfl ?_ ?_ | refine r_sto rfl ?_ ?_ | refine r_gobj rfl rfl rfl rfl ?_ ?_); focus (first | omega | exact Nat.le_of_ble_eq_true rfl | (simp only [wrap_u8, IntKind.wrap_i64, IntKind.wrap_i32, wrap_u32', wrap_u64', InI]; (repeat' refine And.intro ?_ ?_) <;> omega) | ((repeat' refine And.intro ?_ ?_) <;> first | omega | rfl | exact Nat.le_refl _ | exact Nat.le_of_ble_eq_true rfl | exact bytesF_one _) | (simp_all; done) | (simp_all; omega)))
        | refine e_hit rfl ?_ | refine e_miss rfl ?_
        | with_reducible refine ⟨by kernel_rfl, ?_⟩ | refine x_end rfl ?_ | refine n_end rfl ?_ | ((with_reducible refine c_grd ?_); (fail_if_success (refine c_lit true rfl rfl rfl ?_)); (fail_if_success (refine c_lit false rfl rfl rfl ?_)); refine c_split rfl rfl (fun _ => ?_) (fun _ => ?_)))
      refine T.loop hL (fun x : Nat × Hdl => [(2, .pv 2 0), (6, .s mt), (7, .s tg), (8, .mh 38), (40, .sl 1 ((l.length : Int).toNat - (1 : Int).toNat) (fun i => wxF l ((1 : Int).toNat + i))), (41, .i .i64 ((l.length : Int).toNat - (1 : Int).toNat : Nat)), (42, .i .i64 x.1)]) (fun x => pOw8 x.2)
        (fun x => 1 + x.1 ≤ l.length ∧ hdsP [] (l.drop 1) = hdsP x.2 (l.drop (1 + x.1)) ∧ (∀ p ∈ x.2, p.2.length ≤ x.1) ∧ ∀ p ∈ x.2, ∀ v ∈ p.2, v.length ≤ 2000) (fun x => l.length - x.1) (0, []) ⟨hl0, rfl, fun _ h => absurd h (by simp), fun _ h => absurd h (by simp)⟩
        ⟨⟨rfl, rfl, rfl, rfl, rfl, rfl, rfl, trivial⟩, ⟨rfl, rfl, trivial⟩, rfl, fun q hq => by rw [hX] at hq; simp at hq⟩ ?_
      rintro ⟨i, hs⟩ ⟨hi, hgo, hget, hmem⟩
      dsimp only at hi hgo hget hmem ⊢
      rw [hgo]
      have hnat : (1 : Int).toNat + (i : Int).toNat = 1 + i := rfl
      by_cases hil : 1 + i < l.length
      · have hst := hds_at (hs := hs) hil
        rw [hst]
        have c3 := header_ctr (l.getD (1 + i) []) (by have := hlj (1 + i); omega)
        have hvl := hdr_len (l.getD (1 + i) [])
        have hlj1 := hlj (1 + i)
        generalize hdrP (l.getD (1 + i) []) = H at *
        obtain ⟨key, v, ok⟩ := H
        dsimp only at hvl hst ⊢
        cases ok with
        | false =>
          repeat' (first
            | refine r_call (f := 42) rfl rfl Tryd.call42 rfl c3 ?_
            | with_reducible (first | refine t_seq ?_ | refine t_region ?_ | refine c_nil ?_ | refine n_then ?_ | refine t_ret ?_ | refine t_skip ?_ | refine t_exit ?_ | refine t_block ?_ | refine n_block ?_ | refine e_then ?_ | refine x_then ?_ | refine x_block ?_ | refine t_draw ?_)
            | refine r_val rfl rfl True.intro ?_ | refine r_gskip rfl rfl rfl ?_ | refine r_gskip2 rfl rfl rfl ?_ | refine r_gval rfl rfl rfl rfl True.intro ?_
            | refine t_true rfl ?_ | refine t_false rfl ?_
            | ((first | refine t_cond_d rfl ?_ ?_ | refine t_cond_i rfl ?_ ?_ | refine t_cond_j rfl ?_ ?_ | refine t_cond_s rfl ?_ ?_ | refine t_cond_n rfl ?_ ?_ | refine t_cond rfl ?_ ?_ | refine c_split_d rfl rfl ?_ ?_ | refine c_split_i rfl rfl ?_ ?_ | refine c_split_j rfl rfl ?_ ?_ | refine c_split_s rfl rfl ?_ ?_ | refine c_split_n rfl rfl ?_ ?_) <;> intro <;> try (first | (rename_i hz; exact Bool.noConfusion (show true = false from hz)) | (rename_i hz; exact Bool.noConfusion (show false = true from hz)) | (exfalso; omega)))
            | ((first | refine r_val rfl rfl ?_ ?_ | refine r_gval rfl rfl rfl rfl ?_ ?_ | refine r_obj rfl rfl ?_ ?_ | refine r_sto rfl ?_ ?_ | refine r_gobj rfl rfl rfl rfl ?_ ?_); focus (first | omega | exact Nat.le_of_ble_eq_true rfl | (simp only [wrap_u8, IntKind.wrap_i64, IntKind.wrap_i32, wrap_u32', wrap_u64', InI]; (repeat' refine And.intro ?_ ?_) <;> omega) | ((repeat' refine And.intro ?_ ?_) <;> first | omega | rfl | exact Nat.le_refl _ | exact Nat.le_of_ble_eq_true rfl | exact bytesF_one _) | (simp_all; done) | (simp_all; omega)))
            | refine e_hit rfl ?_ | refine e_miss rfl ?_
            | with_reducible refine ⟨by kernel_rfl, ?_⟩ | refine x_end rfl ?_ | refine n_end rfl ?_ | ((with_reducible refine c_grd ?_); (fail_if_success (refine c_lit true rfl rfl rfl ?_)); (fail_if_success (refine c_lit false rfl rfl rfl ?_)); refine c_split rfl rfl (fun _ => ?_) (fun _ => ?_)))
          all_goals rfl
        | true =>
          have h61 : look 61 (rowsGo 0 hs) = none := rows_no (.inl (by omega))
          cases hh : hasH key hs with
          | true =>
            have hg := mget_G (k := 0) hh
            have hm := getH_le (key := key) hget
            have hkL : look (100 + (0 + posH key hs)) ((61, .row 9 1 1) :: pOw8 hs) = some (.row 9 1 (getH key hs).length) := by
              rw [look_ne (by omega), look_ne (by omega), look_ne (by omega), rows_at (posH_lt hh), getH_at hh]
            have h38 : look 38 ((100 + (0 + posH key hs), .row 9 1 ((getH key hs).length + 1)) :: (61, .row 9 1 1) :: pOw8 hs) = some (.mp (entsGo 0 hs)) := by
              rw [look_ne (by omega)]
              rfl
            repeat' (first
              | refine r_call (f := 42) rfl rfl Tryd.call42 rfl c3 ?_ | refine r_mhit und_heads Tryd.underlying9 rfl rfl rfl hg rfl ?_ | refine r_bsl1 rfl rfl rfl h61 rfl ?_ | refine r_appG rfl rfl rfl rfl hkL (by omega) (by decide) rfl ?_ | refine r_mput und_heads Tryd.underlying9 rfl rfl rfl rfl h38 ?_
              | with_reducible (first | refine t_seq ?_ | refine t_region ?_ | refine c_nil ?_ | refine n_then ?_ | refine t_ret ?_ | refine t_skip ?_ | refine t_exit ?_ | refine t_block ?_ | refine n_block ?_ | refine e_then ?_ | refine x_then ?_ | refine x_block ?_ | refine t_draw ?_)
              | refine r_val rfl rfl True.intro ?_ | refine r_gskip rfl rfl rfl ?_ | refine r_gskip2 rfl rfl rfl ?_ | refine r_gval rfl rfl rfl rfl True.intro ?_
              | refine t_true rfl ?_ | refine t_false rfl ?_
              | ((first | refine t_cond_d rfl ?_ ?_ | refine t_cond_i rfl ?_ ?_ | refine t_cond_j rfl ?_ ?_ | refine t_cond_s rfl ?_ ?_ | refine t_cond_n rfl ?_ ?_ | refine t_cond rfl ?_ ?_ | refine c_split_d rfl rfl ?_ ?_ | refine c_split_i rfl rfl ?_ ?_ | refine c_split_j rfl rfl ?_ ?_ | refine c_split_s rfl rfl ?_ ?_ | refine c_split_n rfl rfl ?_ ?_) <;> intro <;> try (first | (rename_i hz; exact Bool.noConfusion (show true = false from hz)) | (rename_i hz; exact Bool.noConfusion (show false = true from hz)) | (exfalso; omega)))
              | ((first | refine r_val rfl rfl ?_ ?_ | refine r_gval rfl rfl rfl rfl ?_ ?_ | refine r_obj rfl rfl ?_ ?_ | refine r_sto rfl ?_ ?_ | refine r_gobj rfl rfl rfl rfl ?_ ?_); focus (first | omega | exact Nat.le_of_ble_eq_true rfl | (simp only [wrap_u8, IntKind.wrap_i64, IntKind.wrap_i32, wrap_u32', wrap_u64', InI]; (repeat' refine And.intro ?_ ?_) <;> omega) | ((repeat' refine And.intro ?_ ?_) <;> first | omega | rfl | exact Nat.le_refl _ | exact Nat.le_of_ble_eq_true rfl | exact bytesF_one _) | (simp_all; done) | (simp_all; omega)))
              | refine e_hit rfl ?_ | refine e_miss rfl ?_
              | with_reducible refine ⟨by kernel_rfl, ?_⟩ | refine x_end rfl ?_ | refine n_end rfl ?_ | ((with_reducible refine c_grd ?_); (fail_if_success (refine c_lit true rfl rfl rfl ?_)); (fail_if_success (refine c_lit false rfl rfl rfl ?_)); refine c_split rfl rfl (fun _ => ?_) (fun _ => ?_)))
            have hput : mput key (.gs (100 + (0 + posH key hs)) 1 ((getH key hs).length + 1) (catF (getH key hs).length (wxF (getH key hs)) 1 (wxF [v]))) (entsGo 0 hs) = entsGo 0 (addH key v hs) := by
              rw [catF_wx _ v _ rfl]
              exact mput_G (k := 0)
            have hln : (addH key v hs).length = hs.length := by rw [addH_len, if_pos hh]
            have h2 : ∀ M : Own, look 2 ((38, M) :: (100 + (0 + posH key hs), .row 9 1 ((getH key hs).length + 1)) :: (61, .row 9 1 1) :: pOw8 hs) = some (.var rq0) := fun M => by
              rw [look_ne (by omega), look_ne (by omega)]
              rfl
            have hrows : ∀ M : Own, ∀ q, q < (addH key v hs).length → look (100 + (0 + q)) ((38, M) :: (100 + (0 + posH key hs), .row 9 1 ((getH key hs).length + 1)) :: (61, .row 9 1 1) :: pOw8 hs) = some (.row 9 1 ((addH key v hs).getD q ([], [])).2.length) := fun M q hq => by
              rw [addH_at q hq, look_ne (by omega)]
              by_cases e : q = posH key hs
              · subst e
                rw [look_eq, if_pos rfl]
              · rw [look_ne (by omega), look_ne (by omega), look_ne (by omega), look_ne (by omega), rows_at (by omega), if_neg e]
            exact ⟨(i + 1, addH key v hs), ⟨by dsimp only; omega, rfl, addH_le hget, addH_mem (by omega) hmem⟩, by dsimp only; omega, ⟨rfl, rfl, rfl, rfl, rfl, rfl, congrArg (D.i .i64) (by dsimp only; omega), trivial⟩, ⟨congrArg (fun e => some (Own.mp e)) hput, h2 _, leOw_rows (k := 0) (hrows _)⟩, ok_loop fun r => rfl, fun q hq => by rw [hX] at hq; simp at hq⟩
          | false =>
            have hg := mget_G0 (k := 0) hh
            have hkL : look (100 + hs.length) ((61, .row 9 1 1) :: pOw8 hs) = none := by
              rw [look_ne (by omega), look_ne (by omega), look_ne (by omega), rows_no (.inr (by omega))]
            have h38 : look 38 ((100 + hs.length, .row 9 1 1) :: (61, .row 9 1 1) :: pOw8 hs) = some (.mp (entsGo 0 hs)) := by
              rw [look_ne (by omega)]
              rfl
            repeat' (first
              | refine r_call (f := 42) rfl rfl Tryd.call42 rfl c3 ?_ | refine r_mmiss und_heads Tryd.underlying9 rfl rfl rfl rfl hg rfl ?_ | refine r_bsl1 rfl rfl rfl h61 rfl ?_ | refine r_appK (100 + hs.length) rfl rfl rfl rfl hkL (by decide) rfl ?_ | refine r_mput und_heads Tryd.underlying9 rfl rfl rfl rfl h38 ?_
              | with_reducible (first | refine t_seq ?_ | refine t_region ?_ | refine c_nil ?_ | refine n_then ?_ | refine t_ret ?_ | refine t_skip ?_ | refine t_exit ?_ | refine t_block ?_ | refine n_block ?_ | refine e_then ?_ | refine x_then ?_ | refine x_block ?_ | refine t_draw ?_)
              | refine r_val rfl rfl True.intro ?_ | refine r_gskip rfl rfl rfl ?_ | refine r_gskip2 rfl rfl rfl ?_ | refine r_gval rfl rfl rfl rfl True.intro ?_
              | refine t_true rfl ?_ | refine t_false rfl ?_
              | ((first | refine t_cond_d rfl ?_ ?_ | refine t_cond_i rfl ?_ ?_ | refine t_cond_j rfl ?_ ?_ | refine t_cond_s rfl ?_ ?_ | refine t_cond_n rfl ?_ ?_ | refine t_cond rfl ?_ ?_ | refine c_split_d rfl rfl ?_ ?_ | refine c_split_i rfl rfl ?_ ?_ | refine c_split_j rfl rfl ?_ ?_ | refine c_split_s rfl rfl ?_ ?_ | refine c_split_n rfl rfl ?_ ?_) <;> intro <;> try (first | (rename_i hz; exact Bool.noConfusion (show true = false from hz)) | (rename_i hz; exact Bool.noConfusion (show false = true from hz)) | (exfalso; omega)))
              | ((first | refine r_val rfl rfl ?_ ?_ | refine r_gval rfl rfl rfl rfl ?_ ?_ | refine r_obj rfl rfl ?_ ?_ | refine r_sto rfl ?_ ?_ | refine r_gobj rfl rfl rfl rfl ?_ ?_); focus (first | omega | exact Nat.le_of_ble_eq_true rfl | (simp only [wrap_u8, IntKind.wrap_i64, IntKind.wrap_i32, wrap_u32', wrap_u64', InI]; (repeat' refine And.intro ?_ ?_) <;> omega) | ((repeat' refine And.intro ?_ ?_) <;> first | omega | rfl | exact Nat.le_refl _ | exact Nat.le_of_ble_eq_true rfl | exact bytesF_one _) | (simp_all; done) | (simp_all; omega)))
              | refine e_hit rfl ?_ | refine e_miss rfl ?_
              | with_reducible refine ⟨by kernel_rfl, ?_⟩ | refine x_end rfl ?_ | refine n_end rfl ?_ | ((with_reducible refine c_grd ?_); (fail_if_success (refine c_lit true rfl rfl rfl ?_)); (fail_if_success (refine c_lit false rfl rfl rfl ?_)); refine c_split rfl rfl (fun _ => ?_) (fun _ => ?_)))
            have hpo := posH_no hh
            have hput : mput key (.gs (100 + hs.length) 1 1 (wxF [v])) (entsGo 0 hs) = entsGo 0 (addH key v hs) := by
              have := mput_G (key := key) (v := v) (hs := hs) (k := 0)
              rw [(mget_miss hh).2, hpo, Nat.zero_add] at this
              exact this
            have hln : (addH key v hs).length = hs.length + 1 := by rw [addH_len, if_neg (by rw [hh]; exact Bool.false_ne_true)]
            have h2 : ∀ M : Own, look 2 ((38, M) :: (100 + hs.length, .row 9 1 1) :: (61, .row 9 1 1) :: pOw8 hs) = some (.var rq0) := fun M => by
              rw [look_ne (by omega), look_ne (by omega)]
              rfl
            have hrows : ∀ M : Own, ∀ q, q < (addH key v hs).length → look (100 + (0 + q)) ((38, M) :: (100 + hs.length, .row 9 1 1) :: (61, .row 9 1 1) :: pOw8 hs) = some (.row 9 1 ((addH key v hs).getD q ([], [])).2.length) := fun M q hq => by
              rw [addH_at q hq, look_ne (by omega), hpo, (mget_miss hh).2]
              by_cases e : q = hs.length
              · subst e
                rw [if_pos rfl, Nat.zero_add, look_eq]
                rfl
              · rw [look_ne (by omega), look_ne (by omega), look_ne (by omega), look_ne (by omega), rows_at (by omega), if_neg e]
            exact ⟨(i + 1, addH key v hs), ⟨by dsimp only; omega, rfl, addH_le hget, addH_mem (by omega) hmem⟩, by dsimp only; omega, ⟨rfl, rfl, rfl, rfl, rfl, rfl, congrArg (D.i .i64) (by dsimp only; omega), trivial⟩, ⟨congrArg (fun e => some (Own.mp e)) hput, h2 _, leOw_rows (k := 0) (hrows _)⟩, ok_loop fun r => rfl, fun q hq => by rw [hX] at hq; simp at hq⟩
      · have hd : l.drop (1 + i) = [] := List.drop_eq_nil_of_le (by omega)
        rw [hd, show hdsP hs [] = some hs from rfl]
        dsimp only
        have c5 := right_ctr hs (fun j => by have := getD_le hget j; omega)
        have c7 := w_cut tg [63] (by omega)
        have hlenE : (entsH hs).length = (entsGo 0 hs).length := by rw [entsH_len, entsGo_len]
        have hwE : ∀ j, j < (entsGo 0 hs).length → ((entsH hs).getD j ([], .any)).1 = ((entsGo 0 hs).getD j ([], .any)).1 ∧ ((entsH hs).getD j ([], .any)).2.one = true ∧ ∀ S w r v, Rel S w r ((entsGo 0 hs).getD j ([], .any)).2 v → Rel S w r ((entsH hs).getD j ([], .any)).2 v := fun j hj => by
          rw [entsGo_len] at hj
          rw [entsH_at hs j hj, entsGo_at j hj]
          exact ⟨rfl, rfl, fun S w r v h => h.shut⟩
        have key : ∀ (k : List UInt8) (f : FuncId) (F : List (List UInt8) → D), (∀ vs : List (List UInt8), vs.length ≤ 3000 → (∀ i, (vs.getD i []).length ≤ 2000) → Ctr Tryd.prog f [.sl 1 vs.length (wxF vs)] (F vs)) →
            (∃ n g, mget k (entsH hs) = some (.sl 1 n g) ∧ Ctr Tryd.prog f [.sl 1 n g] (F (getH k hs))) ∨ (mget k (entsH hs) = none ∧ Ctr Tryd.prog f [.nilS] (F (getH k hs))) := by
          intro k f F hc
          have hc := hc (getH k hs) (by have := getH_le (key := k) hget; omega) (getH_mem (q := fun v => v.length ≤ 2000) (Nat.zero_le _) hmem)
          cases hh : hasH k hs with
          | true => exact .inl ⟨_, _, mget_hit hh, hc⟩
          | false =>
            obtain ⟨hg, hz⟩ := mget_miss hh
            exact .inr ⟨hg, hc.weak1 (by rw [hz]; exact .nil 1 _)⟩
        have k1 := key inmK 45 (fun vs => lsD (tagsA vs)) fun vs h1 h2 => tagsA_ctr vs h1 fun i => by have := h2 i; omega
        have k2 := key aceK 36 (fun vs => .b (accV vs)) fun vs h1 h2 => accepts_ctr vs _ _ rfl (fun _ _ => rfl) h1 (fun i => by have := h2 i; omega) fun i j => by
          have := h2 i
          have := split_piece (vs.getD i []) [44] j
          omega
        generalize tagsA (getH inmK hs) = TG at *
        obtain ⟨tgs, any⟩ := TG
        generalize accV (getH aceK hs) = acc at *
        generalize Lib.cut tg [63] = ct at *
        obtain ⟨pth, rst, fnd⟩ := ct
        cases hr : rightH hs with
        | false =>
          rw [hr] at c5
          repeat' (first
            | refine T.mapWeak 38 (entsGo 0 hs) (entsH hs) rfl hlenE hwE ?_ | refine r_lend1 (f := 43) 38 rfl rfl Tryd.call43 rfl rfl (entsH_ok _ _) (entsH_ok _ _) rfl c5 ?_
            | with_reducible (first | refine t_seq ?_ | refine t_region ?_ | refine c_nil ?_ | refine n_then ?_ | refine t_ret ?_ | refine t_skip ?_ | refine t_exit ?_ | refine t_block ?_ | refine n_block ?_ | refine e_then ?_ | refine x_then ?_ | refine x_block ?_ | refine t_draw ?_)
            | refine r_val rfl rfl True.intro ?_ | refine r_gskip rfl rfl rfl ?_ | refine r_gskip2 rfl rfl rfl ?_ | refine r_gval rfl rfl rfl rfl True.intro ?_
            | refine t_true rfl ?_ | refine t_false rfl ?_
            | ((first | refine t_cond_d rfl ?_ ?_ | refine t_cond_i rfl ?_ ?_ | refine t_cond_j rfl ?_ ?_ | refine t_cond_s rfl ?_ ?_ | refine t_cond_n rfl ?_ ?_ | refine t_cond rfl ?_ ?_ | refine c_split_d rfl rfl ?_ ?_ | refine c_split_i rfl rfl ?_ ?_ | refine c_split_j rfl rfl ?_ ?_ | refine c_split_s rfl rfl ?_ ?_ | refine c_split_n rfl rfl ?_ ?_) <;> intro <;> try (first | (rename_i hz; exact Bool.noConfusion (show true = false from hz)) | (rename_i hz; exact Bool.noConfusion (show false = true from hz)) | (exfalso; omega)))
            | ((first | refine r_val rfl rfl ?_ ?_ | refine r_gval rfl rfl rfl rfl ?_ ?_ | refine r_obj rfl rfl ?_ ?_ | refine r_sto rfl ?_ ?_ | refine r_gobj rfl rfl rfl rfl ?_ ?_); focus (first | omega | exact Nat.le_of_ble_eq_true rfl | (simp only [wrap_u8, IntKind.wrap_i64, IntKind.wrap_i32, wrap_u32', wrap_u64', InI]; (repeat' refine And.intro ?_ ?_) <;> omega) | ((repeat' refine And.intro ?_ ?_) <;> first | omega | rfl | exact Nat.le_refl _ | exact Nat.le_of_ble_eq_true rfl | exact bytesF_one _) | (simp_all; done) | (simp_all; omega)))
            | refine e_hit rfl ?_ | refine e_miss rfl ?_
            | with_reducible refine ⟨by kernel_rfl, ?_⟩ | refine x_end rfl ?_ | refine n_end rfl ?_ | ((with_reducible refine c_grd ?_); (fail_if_success (refine c_lit true rfl rfl rfl ?_)); (fail_if_success (refine c_lit false rfl rfl rfl ?_)); refine c_split rfl rfl (fun _ => ?_) (fun _ => ?_)))
          all_goals rfl
        | true =>
          rw [hr] at c5
          rcases k1 with ⟨n1, f1, g1, k1⟩ | ⟨g1, k1⟩ <;> rcases k2 with ⟨n2, f2, g2, k2⟩ | ⟨g2, k2⟩
          · skip
            repeat' (first
              | refine T.mapWeak 38 (entsGo 0 hs) (entsH hs) rfl hlenE hwE ?_ | refine r_lend1 (f := 43) 38 rfl rfl Tryd.call43 rfl rfl (entsH_ok _ _) (entsH_ok _ _) rfl c5 ?_ | refine r_call (f := 44) rfl rfl Tryd.call44 rfl c7 ?_ | refine r_mgot (key := inmK) und_heads Tryd.underlying9 rfl rfl rfl (.inl g1) rfl ?_ | refine r_mgot (key := aceK) und_heads Tryd.underlying9 rfl rfl rfl (.inl g2) rfl ?_ | refine r_call (f := 45) rfl rfl Tryd.call45 rfl k1 ?_ | refine r_call (f := 36) rfl rfl Tryd.call36 rfl k2 ?_
              | with_reducible (first | refine t_seq ?_ | refine t_region ?_ | refine c_nil ?_ | refine n_then ?_ | refine t_ret ?_ | refine t_skip ?_ | refine t_exit ?_ | refine t_block ?_ | refine n_block ?_ | refine e_then ?_ | refine x_then ?_ | refine x_block ?_ | refine t_draw ?_)
              | refine r_val rfl rfl True.intro ?_ | refine r_gskip rfl rfl rfl ?_ | refine r_gskip2 rfl rfl rfl ?_ | refine r_gval rfl rfl rfl rfl True.intro ?_
              | refine t_true rfl ?_ | refine t_false rfl ?_
              | ((first | refine t_cond_d rfl ?_ ?_ | refine t_cond_i rfl ?_ ?_ | refine t_cond_j rfl ?_ ?_ | refine t_cond_s rfl ?_ ?_ | refine t_cond_n rfl ?_ ?_ | refine t_cond rfl ?_ ?_ | refine c_split_d rfl rfl ?_ ?_ | refine c_split_i rfl rfl ?_ ?_ | refine c_split_j rfl rfl ?_ ?_ | refine c_split_s rfl rfl ?_ ?_ | refine c_split_n rfl rfl ?_ ?_) <;> intro <;> try (first | (rename_i hz; exact Bool.noConfusion (show true = false from hz)) | (rename_i hz; exact Bool.noConfusion (show false = true from hz)) | (exfalso; omega)))
              | ((first | refine r_val rfl rfl ?_ ?_ | refine r_gval rfl rfl rfl rfl ?_ ?_ | refine r_obj rfl rfl ?_ ?_ | refine r_sto rfl ?_ ?_ | refine r_gobj rfl rfl rfl rfl ?_ ?_); focus (first | omega | exact Nat.le_of_ble_eq_true rfl | (simp only [wrap_u8, IntKind.wrap_i64, IntKind.wrap_i32, wrap_u32', wrap_u64', InI]; (repeat' refine And.intro ?_ ?_) <;> omega) | ((repeat' refine And.intro ?_ ?_) <;> first | omega | rfl | exact Nat.le_refl _ | exact Nat.le_of_ble_eq_true rfl | exact bytesF_one _) | (simp_all; done) | (simp_all; omega)))
              | refine e_hit rfl ?_ | refine e_miss rfl ?_
              | with_reducible refine ⟨by kernel_rfl, ?_⟩ | refine x_end rfl ?_ | refine n_end rfl ?_ | ((with_reducible refine c_grd ?_); (fail_if_success (refine c_lit true rfl rfl rfl ?_)); (fail_if_success (refine c_lit false rfl rfl rfl ?_)); refine c_split rfl rfl (fun _ => ?_) (fun _ => ?_)))
            all_goals rfl
          · skip
            repeat' (first
              | refine T.mapWeak 38 (entsGo 0 hs) (entsH hs) rfl hlenE hwE ?_ | refine r_lend1 (f := 43) 38 rfl rfl Tryd.call43 rfl rfl (entsH_ok _ _) (entsH_ok _ _) rfl c5 ?_ | refine r_call (f := 44) rfl rfl Tryd.call44 rfl c7 ?_ | refine r_mgot (key := inmK) und_heads Tryd.underlying9 rfl rfl rfl (.inl g1) rfl ?_ | refine r_mgot (key := aceK) und_heads Tryd.underlying9 rfl rfl rfl (.inr ⟨g2, rfl⟩) rfl ?_ | refine r_call (f := 45) rfl rfl Tryd.call45 rfl k1 ?_ | refine r_call (f := 36) rfl rfl Tryd.call36 rfl k2 ?_
              | with_reducible (first | refine t_seq ?_ | refine t_region ?_ | refine c_nil ?_ | refine n_then ?_ | refine t_ret ?_ | refine t_skip ?_ | refine t_exit ?_ | refine t_block ?_ | refine n_block ?_ | refine e_then ?_ | refine x_then ?_ | refine x_block ?_ | refine t_draw ?_)
              | refine r_val rfl rfl True.intro ?_ | refine r_gskip rfl rfl rfl ?_ | refine r_gskip2 rfl rfl rfl ?_ | refine r_gval rfl rfl rfl rfl True.intro ?_
              | refine t_true rfl ?_ | refine t_false rfl ?_
              | ((first | refine t_cond_d rfl ?_ ?_ | refine t_cond_i rfl ?_ ?_ | refine t_cond_j rfl ?_ ?_ | refine t_cond_s rfl ?_ ?_ | refine t_cond_n rfl ?_ ?_ | refine t_cond rfl ?_ ?_ | refine c_split_d rfl rfl ?_ ?_ | refine c_split_i rfl rfl ?_ ?_ | refine c_split_j rfl rfl ?_ ?_ | refine c_split_s rfl rfl ?_ ?_ | refine c_split_n rfl rfl ?_ ?_) <;> intro <;> try (first | (rename_i hz; exact Bool.noConfusion (show true = false from hz)) | (rename_i hz; exact Bool.noConfusion (show false = true from hz)) | (exfalso; omega)))
              | ((first | refine r_val rfl rfl ?_ ?_ | refine r_gval rfl rfl rfl rfl ?_ ?_ | refine r_obj rfl rfl ?_ ?_ | refine r_sto rfl ?_ ?_ | refine r_gobj rfl rfl rfl rfl ?_ ?_); focus (first | omega | exact Nat.le_of_ble_eq_true rfl | (simp only [wrap_u8, IntKind.wrap_i64, IntKind.wrap_i32, wrap_u32', wrap_u64', InI]; (repeat' refine And.intro ?_ ?_) <;> omega) | ((repeat' refine And.intro ?_ ?_) <;> first | omega | rfl | exact Nat.le_refl _ | exact Nat.le_of_ble_eq_true rfl | exact bytesF_one _) | (simp_all; done) | (simp_all; omega)))
              | refine e_hit rfl ?_ | refine e_miss rfl ?_
              | with_reducible refine ⟨by kernel_rfl, ?_⟩ | refine x_end rfl ?_ | refine n_end rfl ?_ | ((with_reducible refine c_grd ?_); (fail_if_success (refine c_lit true rfl rfl rfl ?_)); (fail_if_success (refine c_lit false rfl rfl rfl ?_)); refine c_split rfl rfl (fun _ => ?_) (fun _ => ?_)))
            all_goals rfl
          · skip
            repeat' (first
              | refine T.mapWeak 38 (entsGo 0 hs) (entsH hs) rfl hlenE hwE ?_ | refine r_lend1 (f := 43) 38 rfl rfl Tryd.call43 rfl rfl (entsH_ok _ _) (entsH_ok _ _) rfl c5 ?_ | refine r_call (f := 44) rfl rfl Tryd.call44 rfl c7 ?_ | refine r_mgot (key := inmK) und_heads Tryd.underlying9 rfl rfl rfl (.inr ⟨g1, rfl⟩) rfl ?_ | refine r_mgot (key := aceK) und_heads Tryd.underlying9 rfl rfl rfl (.inl g2) rfl ?_ | refine r_call (f := 45) rfl rfl Tryd.call45 rfl k1 ?_ | refine r_call (f := 36) rfl rfl Tryd.call36 rfl k2 ?_
              | with_reducible (first | refine t_seq ?_ | refine t_region ?_ | refine c_nil ?_ | refine n_then ?_ | refine t_ret ?_ | refine t_skip ?_ | refine t_exit ?_ | refine t_block ?_ | refine n_block ?_ | refine e_then ?_ | refine x_then ?_ | refine x_block ?_ | refine t_draw ?_)
              | refine r_val rfl rfl True.intro ?_ | refine r_gskip rfl rfl rfl ?_ | refine r_gskip2 rfl rfl rfl ?_ | refine r_gval rfl rfl rfl rfl True.intro ?_
              | refine t_true rfl ?_ | refine t_false rfl ?_
              | ((first | refine t_cond_d rfl ?_ ?_ | refine t_cond_i rfl ?_ ?_ | refine t_cond_j rfl ?_ ?_ | refine t_cond_s rfl ?_ ?_ | refine t_cond_n rfl ?_ ?_ | refine t_cond rfl ?_ ?_ | refine c_split_d rfl rfl ?_ ?_ | refine c_split_i rfl rfl ?_ ?_ | refine c_split_j rfl rfl ?_ ?_ | refine c_split_s rfl rfl ?_ ?_ | refine c_split_n rfl rfl ?_ ?_) <;> intro <;> try (first | (rename_i hz; exact Bool.noConfusion (show true = false from hz)) | (rename_i hz; exact Bool.noConfusion (show false = true from hz)) | (exfalso; omega)))
              | ((first | refine r_val rfl rfl ?_ ?_ | refine r_gval rfl rfl rfl rfl ?_ ?_ | refine r_obj rfl rfl ?_ ?_ | refine r_sto rfl ?_ ?_ | refine r_gobj rfl rfl rfl rfl ?_ ?_); focus (first | omega | exact Nat.le_of_ble_eq_true rfl | (simp only [wrap_u8, IntKind.wrap_i64, IntKind.wrap_i32, wrap_u32', wrap_u64', InI]; (repeat' refine And.intro ?_ ?_) <;> omega) | ((repeat' refine And.intro ?_ ?_) <;> first | omega | rfl | exact Nat.le_refl _ | exact Nat.le_of_ble_eq_true rfl | exact bytesF_one _) | (simp_all; done) | (simp_all; omega)))
              | refine e_hit rfl ?_ | refine e_miss rfl ?_
              | with_reducible refine ⟨by kernel_rfl, ?_⟩ | refine x_end rfl ?_ | refine n_end rfl ?_ | ((with_reducible refine c_grd ?_); (fail_if_success (refine c_lit true rfl rfl rfl ?_)); (fail_if_success (refine c_lit false rfl rfl rfl ?_)); refine c_split rfl rfl (fun _ => ?_) (fun _ => ?_)))
            all_goals rfl
          · skip
            repeat' (first
              | refine T.mapWeak 38 (entsGo 0 hs) (entsH hs) rfl hlenE hwE ?_ | refine r_lend1 (f := 43) 38 rfl rfl Tryd.call43 rfl rfl (entsH_ok _ _) (entsH_ok _ _) rfl c5 ?_ | refine r_call (f := 44) rfl rfl Tryd.call44 rfl c7 ?_ | refine r_mgot (key := inmK) und_heads Tryd.underlying9 rfl rfl rfl (.inr ⟨g1, rfl⟩) rfl ?_ | refine r_mgot (key := aceK) und_heads Tryd.underlying9 rfl rfl rfl (.inr ⟨g2, rfl⟩) rfl ?_ | refine r_call (f := 45) rfl rfl Tryd.call45 rfl k1 ?_ | refine r_call (f := 36) rfl rfl Tryd.call36 rfl k2 ?_
              | with_reducible (first | refine t_seq ?_ | refine t_region ?_ | refine c_nil ?_ | refine n_then ?_ | refine t_ret ?_ | refine t_skip ?_ | refine t_exit ?_ | refine t_block ?_ | refine n_block ?_ | refine e_then ?_ | refine x_then ?_ | refine x_block ?_ | refine t_draw ?_)
              | refine r_val rfl rfl True.intro ?_ | refine r_gskip rfl rfl rfl ?_ | refine r_gskip2 rfl rfl rfl ?_ | refine r_gval rfl rfl rfl rfl True.intro ?_
              | refine t_true rfl ?_ | refine t_false rfl ?_
              | ((first | refine t_cond_d rfl ?_ ?_ | refine t_cond_i rfl ?_ ?_ | refine t_cond_j rfl ?_ ?_ | refine t_cond_s rfl ?_ ?_ | refine t_cond_n rfl ?_ ?_ | refine t_cond rfl ?_ ?_ | refine c_split_d rfl rfl ?_ ?_ | refine c_split_i rfl rfl ?_ ?_ | refine c_split_j rfl rfl ?_ ?_ | refine c_split_s rfl rfl ?_ ?_ | refine c_split_n rfl rfl ?_ ?_) <;> intro <;> try (first | (rename_i hz; exact Bool.noConfusion (show true = false from hz)) | (rename_i hz; exact Bool.noConfusion (show false = true from hz)) | (exfalso; omega)))
              | ((first | refine r_val rfl rfl ?_ ?_ | refine r_gval rfl rfl rfl rfl ?_ ?_ | refine r_obj rfl rfl ?_ ?_ | refine r_sto rfl ?_ ?_ | refine r_gobj rfl rfl rfl rfl ?_ ?_); focus (first | omega | exact Nat.le_of_ble_eq_true rfl | (simp only [wrap_u8, IntKind.wrap_i64, IntKind.wrap_i32, wrap_u32', wrap_u64', InI]; (repeat' refine And.intro ?_ ?_) <;> omega) | ((repeat' refine And.intro ?_ ?_) <;> first | omega | rfl | exact Nat.le_refl _ | exact Nat.le_of_ble_eq_true rfl | exact bytesF_one _) | (simp_all; done) | (simp_all; omega)))
              | refine e_hit rfl ?_ | refine e_miss rfl ?_
              | with_reducible refine ⟨by kernel_rfl, ?_⟩ | refine x_end rfl ?_ | refine n_end rfl ?_ | ((with_reducible refine c_grd ?_); (fail_if_success (refine c_lit true rfl rfl rfl ?_)); (fail_if_success (refine c_lit false rfl rfl rfl ?_)); refine c_split rfl rfl (fun _ => ?_) (fun _ => ?_)))
            all_goals rfl

end Go.Proofs.YtghdgjabpdfaoaaDoor.Flow

/- REQ: the document's: blanks, places, small letters. -/
namespace Go.Proofs.YtghdgjabpdfaoaaDoor.Flow
open Go

def blB (c : Int) : Bool := (c == 32) || (c == 9)
theorem blB_mem (s : List UInt8) (i : Nat) : blB (at' s i) = ([32, 9] : List UInt8).contains (s.getD i 0) := by
  have h : ∀ n : Fin 256, blB (n.1 : Int) = ([32, 9] : List UInt8).contains (UInt8.ofNat n.1) := by decide +kernel
  have h := h ⟨(s.getD i 0).toNat, (s.getD i 0).toNat_lt⟩
  rw [show UInt8.ofNat (s.getD i 0).toNat = s.getD i 0 by simp] at h
  rw [atN]
  exact h

theorem blank_ctr (c : Int) : Ctr Tryd.prog 70 [.i .u8 c] (.b (blB c)) := by
  refine r_fun Tryd.func70 rfl Tryd.ntmps70 Tryd.results70 rfl rfl fun X hL hX => ?_
  repeat' (first
    | with_reducible (first | refine t_seq ?_ | refine t_region ?_ | refine c_nil ?_ | refine n_then ?_ | refine t_ret ?_ | refine t_skip ?_ | refine t_exit ?_ | refine t_block ?_ | refine n_block ?_ | refine e_then ?_ | refine x_then ?_ | refine x_block ?_ | refine t_draw ?_)
    | refine r_val rfl rfl True.intro ?_ | refine r_gskip rfl rfl rfl ?_ | refine r_gskip2 rfl rfl rfl ?_ | refine r_gval rfl rfl rfl rfl True.intro ?_
    | refine t_true rfl ?_ | refine t_false rfl ?_
    | ((first | refine t_cond_d rfl ?_ ?_ | refine t_cond_i rfl ?_ ?_ | refine t_cond_j rfl ?_ ?_ | refine t_cond_s rfl ?_ ?_ | refine t_cond_n rfl ?_ ?_ | refine t_cond rfl ?_ ?_ | refine c_split_d rfl rfl ?_ ?_ | refine c_split_i rfl rfl ?_ ?_ | refine c_split_j rfl rfl ?_ ?_ | refine c_split_s rfl rfl ?_ ?_ | refine c_split_n rfl rfl ?_ ?_) <;> intro <;> try (first | contradiction | (exfalso; omega)))
    | ((first | refine r_val rfl rfl ?_ ?_ | refine r_gval rfl rfl rfl rfl ?_ ?_ | refine r_obj rfl rfl ?_ ?_ | refine r_sto rfl ?_ ?_ | refine r_gobj rfl rfl rfl rfl ?_ ?_); focus (first | omega | exact Nat.le_of_ble_eq_true rfl | (simp_all; done) | (simp_all; omega) | ((repeat' refine And.intro ?_ ?_) <;> first | omega | rfl | exact Nat.le_refl _ | exact Nat.le_of_ble_eq_true rfl | exact bytesF_one _ | (simp_all; done) | (simp_all; omega))))
    | refine e_hit rfl ?_ | refine e_miss rfl ?_
    | with_reducible refine ⟨by kernel_rfl, ?_⟩ | refine x_end rfl ?_ | refine n_end rfl ?_ | ((with_reducible refine c_grd ?_); (fail_if_success (refine c_lit true rfl rfl rfl ?_)); (fail_if_success (refine c_lit false rfl rfl rfl ?_)); refine c_split rfl rfl (fun _ => ?_) (fun _ => ?_)))
  all_goals simp_all [blB]

/-! ### A byte's place -/
def fndN (c : UInt8) (s : List UInt8) : Nat := (s.takeWhile fun x => decide (x ≠ c)).length
theorem fndN_le (c : UInt8) (s : List UInt8) : fndN c s ≤ s.length := (List.takeWhile_sublist _).length_le
theorem dropD (s : List UInt8) (i e : Nat) : (s.drop i).getD e 0 = s.getD (i + e) 0 := by
  simp [List.getD_eq_getElem?_getD]
theorem byteN (c d : UInt8) : c = d ↔ (c.toNat : Int) = (d.toNat : Int) := by
  constructor
  · rintro rfl
    rfl
  · intro h
    exact UInt8.toNat.inj (by omega)

/-! ### Small letters -/
def abc : List UInt8 := [97, 98, 99, 100, 101, 102, 103, 104, 105, 106, 107, 108, 109, 110, 111, 112, 113, 114, 115, 116, 117, 118, 119, 120, 121, 122]
theorem abc_at : ∀ n : Fin 26, (abc.take (n.1 + 1)).drop n.1 = [UInt8.ofNat (lowI (n.1 + 65 : Nat)).toNat] := by decide
theorem small_succ {s : List UInt8} {i : Nat} (h : i < s.length) : smallL (s.take (i + 1)) = smallL (s.take i) ++ [UInt8.ofNat (lowI (at' s i)).toNat] := by
  unfold smallL
  rw [List.take_add_one, List.map_append]
  congr 1
  have : s[i]? = some (s.getD i 0) := by simp [List.getD_eq_getElem?_getD, h]
  rw [this, atN]
  rfl
theorem one_at {s : List UInt8} {i : Nat} (h : i < s.length) : (s.take (i + 1)).drop i = [s.getD i 0] := by
  rw [List.take_add_one, List.drop_append_of_le_length (by rw [List.length_take]; omega), List.drop_eq_nil_of_le (by rw [List.length_take]; omega)]
  simp [List.getD_eq_getElem?_getD, h]

set_option maxRecDepth 100000 in
set_option maxHeartbeats 1000000 in
theorem rsmall_ctr (s : List UInt8) (hs : s.length ≤ 1000000) : Ctr Tryd.prog 22 [.s s] (.s (smallL s)) := by
  refine r_fun Tryd.func22 rfl Tryd.ntmps22 Tryd.results22 rfl rfl fun X hL hX => ?_
  repeat' (first
    | with_reducible (first | refine t_seq ?_ | refine t_region ?_ | refine c_nil ?_ | refine n_then ?_ | refine t_ret ?_ | refine t_skip ?_ | refine t_exit ?_ | refine t_block ?_ | refine n_block ?_ | refine e_then ?_ | refine x_then ?_ | refine x_block ?_ | refine t_draw ?_)
    | refine r_val rfl rfl True.intro ?_ | refine r_gskip rfl rfl rfl ?_ | refine r_gskip2 rfl rfl rfl ?_ | refine r_gval rfl rfl rfl rfl True.intro ?_
    | refine t_true rfl ?_ | refine t_false rfl ?_
    | ((first | refine t_cond_d rfl ?_ ?_ | refine t_cond_i rfl ?_ ?_ | refine t_cond_j rfl ?_ ?_ | refine t_cond_s rfl ?_ ?_ | refine t_cond_n rfl ?_ ?_ | refine t_cond rfl ?_ ?_ | refine c_split_d rfl rfl ?_ ?_ | refine c_split_i rfl rfl ?_ ?_ | refine c_split_j rfl rfl ?_ ?_ | refine c_split_s rfl rfl ?_ ?_ | refine c_split_n rfl rfl ?_ ?_) <;> intro <;> try (first | (rename_i hz; exact Bool.noConfusion (show true = false from hz)) | (rename_i hz; exact Bool.noConfusion (show false = true from hz)) | (exfalso; omega)))
    | ((first | refine r_val rfl rfl ?_ ?_ | refine r_gval rfl rfl rfl rfl ?_ ?_ | refine r_obj rfl rfl ?_ ?_ | refine r_sto rfl ?_ ?_ | refine r_gobj rfl rfl rfl rfl ?_ ?_); focus (first | omega | exact Nat.le_of_ble_eq_true rfl | (simp only [wrap_u8, IntKind.wrap_i64, IntKind.wrap_i32, wrap_u32', wrap_u64', InI]; (repeat' refine And.intro ?_ ?_) <;> omega) | ((repeat' refine And.intro ?_ ?_) <;> first | omega | rfl | exact Nat.le_refl _ | exact Nat.le_of_ble_eq_true rfl | exact bytesF_one _) | (simp_all; done) | (simp_all; omega)))
    | refine e_hit rfl ?_ | refine e_miss rfl ?_
    | with_reducible refine ⟨by kernel_rfl, ?_⟩ | ((with_reducible refine c_grd ?_); (fail_if_success (refine c_lit true rfl rfl rfl ?_)); (fail_if_success (refine c_lit false rfl rfl rfl ?_)); refine c_split rfl rfl (fun _ => ?_) (fun _ => ?_)))
  refine T.loop hL (fun i : Nat => [(0, .s s), (3, .s (smallL (s.take i))), (4, .i .i64 i)]) (fun _ => []) (fun i => i ≤ s.length) (fun i => s.length - i) 0 (Nat.zero_le _)
    ⟨⟨rfl, rfl, rfl, trivial⟩, trivial, rfl, fun q hq => by rw [hX] at hq; simp at hq⟩ ?_
  rintro i hi
  have hsl : (smallL (s.take i)).length ≤ i := by
    unfold smallL
    rw [List.length_map, List.length_take]
    omega
  by_cases hp : i < s.length
  · have hsu := small_succ hp
    have ha := at_range s i
    have hone := one_at hp
    have hat := atN s i
    have hw : IntKind.i64.wrap (at' s i) = at' s i := by rw [IntKind.wrap_i64]; omega
    have e1 : ((i : Int) + 1).toNat = i + 1 := rfl
    have e2 : (i : Int).toNat = i := rfl
    by_cases hc : 65 ≤ at' s i ∧ at' s i ≤ 90
    · obtain ⟨n, hn⟩ : ∃ n : Nat, at' s i = (n + 65 : Nat) ∧ n < 26 := ⟨(at' s i - 65).toNat, by omega, by omega⟩
      have habc := abc_at ⟨n, hn.2⟩
      dsimp only at habc
      have hn1 := hn.1
      clear hat
      repeat' (first
        | with_reducible (first | refine t_seq ?_ | refine t_region ?_ | refine c_nil ?_ | refine n_then ?_ | refine t_ret ?_ | refine t_skip ?_ | refine t_exit ?_ | refine t_block ?_ | refine n_block ?_ | refine e_then ?_ | refine x_then ?_ | refine x_block ?_ | refine t_draw ?_)
        | refine r_val rfl rfl True.intro ?_ | refine r_gskip rfl rfl rfl ?_ | refine r_gskip2 rfl rfl rfl ?_ | refine r_gval rfl rfl rfl rfl True.intro ?_
        | refine t_true rfl ?_ | refine t_false rfl ?_
        | ((first | refine t_cond_d rfl ?_ ?_ | refine t_cond_i rfl ?_ ?_ | refine t_cond_j rfl ?_ ?_ | refine t_cond_s rfl ?_ ?_ | refine t_cond_n rfl ?_ ?_ | refine t_cond rfl ?_ ?_ | refine c_split_d rfl rfl ?_ ?_ | refine c_split_i rfl rfl ?_ ?_ | refine c_split_j rfl rfl ?_ ?_ | refine c_split_s rfl rfl ?_ ?_ | refine c_split_n rfl rfl ?_ ?_) <;> intro <;> try (first | (rename_i hz; exact Bool.noConfusion (show true = false from hz)) | (rename_i hz; exact Bool.noConfusion (show false = true from hz)) | (exfalso; omega)))
        | ((first | refine r_val rfl rfl ?_ ?_ | refine r_gval rfl rfl rfl rfl ?_ ?_ | refine r_obj rfl rfl ?_ ?_ | refine r_sto rfl ?_ ?_ | refine r_gobj rfl rfl rfl rfl ?_ ?_); focus (first | omega | exact Nat.le_of_ble_eq_true rfl | (simp only [wrap_u8, IntKind.wrap_i64, IntKind.wrap_i32, wrap_u32', wrap_u64', InI]; (repeat' refine And.intro ?_ ?_) <;> omega) | ((repeat' refine And.intro ?_ ?_) <;> first | omega | rfl | exact Nat.le_refl _ | exact Nat.le_of_ble_eq_true rfl | exact bytesF_one _) | (simp_all; done) | (simp_all; omega)))
        | refine e_hit rfl ?_ | refine e_miss rfl ?_
        | with_reducible refine ⟨by kernel_rfl, ?_⟩ | refine x_end rfl ?_ | refine n_end rfl ?_ | ((with_reducible refine c_grd ?_); (fail_if_success (refine c_lit true rfl rfl rfl ?_)); (fail_if_success (refine c_lit false rfl rfl rfl ?_)); refine c_split rfl rfl (fun _ => ?_) (fun _ => ?_)))
      all_goals exact ⟨i + 1, by omega, by omega, ⟨rfl, (by
        show D.s (smallL (s.take i) ++ List.drop (IntKind.i64.wrap (at' s i) - 65).toNat (List.take (IntKind.i64.wrap (at' s i) - 65 + 1).toNat abc)) = D.s (smallL (s.take (i + 1)))
        rw [hsu, hw, hn1, ← habc, show (((n + 65 : Nat) : Int) - 65).toNat = n by omega, show (((n + 65 : Nat) : Int) - 65 + 1).toNat = n + 1 by omega]), congrArg (D.i .i64) (by omega), trivial⟩, trivial, rfl, fun q hq => by rw [hX] at hq; simp at hq⟩
    · have hlow : lowI (at' s i) = at' s i := if_neg hc
      repeat' (first
        | with_reducible (first | refine t_seq ?_ | refine t_region ?_ | refine c_nil ?_ | refine n_then ?_ | refine t_ret ?_ | refine t_skip ?_ | refine t_exit ?_ | refine t_block ?_ | refine n_block ?_ | refine e_then ?_ | refine x_then ?_ | refine x_block ?_ | refine t_draw ?_)
        | refine r_val rfl rfl True.intro ?_ | refine r_gskip rfl rfl rfl ?_ | refine r_gskip2 rfl rfl rfl ?_ | refine r_gval rfl rfl rfl rfl True.intro ?_
        | refine t_true rfl ?_ | refine t_false rfl ?_
        | ((first | refine t_cond_d rfl ?_ ?_ | refine t_cond_i rfl ?_ ?_ | refine t_cond_j rfl ?_ ?_ | refine t_cond_s rfl ?_ ?_ | refine t_cond_n rfl ?_ ?_ | refine t_cond rfl ?_ ?_ | refine c_split_d rfl rfl ?_ ?_ | refine c_split_i rfl rfl ?_ ?_ | refine c_split_j rfl rfl ?_ ?_ | refine c_split_s rfl rfl ?_ ?_ | refine c_split_n rfl rfl ?_ ?_) <;> intro <;> try (first | (rename_i hz; exact Bool.noConfusion (show true = false from hz)) | (rename_i hz; exact Bool.noConfusion (show false = true from hz)) | (exfalso; omega)))
        | ((first | refine r_val rfl rfl ?_ ?_ | refine r_gval rfl rfl rfl rfl ?_ ?_ | refine r_obj rfl rfl ?_ ?_ | refine r_sto rfl ?_ ?_ | refine r_gobj rfl rfl rfl rfl ?_ ?_); focus (first | omega | exact Nat.le_of_ble_eq_true rfl | (simp only [wrap_u8, IntKind.wrap_i64, IntKind.wrap_i32, wrap_u32', wrap_u64', InI]; (repeat' refine And.intro ?_ ?_) <;> omega) | ((repeat' refine And.intro ?_ ?_) <;> first | omega | rfl | exact Nat.le_refl _ | exact Nat.le_of_ble_eq_true rfl | exact bytesF_one _) | (simp_all; done) | (simp_all; omega)))
        | refine e_hit rfl ?_ | refine e_miss rfl ?_
        | with_reducible refine ⟨by kernel_rfl, ?_⟩ | refine x_end rfl ?_ | refine n_end rfl ?_ | ((with_reducible refine c_grd ?_); (fail_if_success (refine c_lit true rfl rfl rfl ?_)); (fail_if_success (refine c_lit false rfl rfl rfl ?_)); refine c_split rfl rfl (fun _ => ?_) (fun _ => ?_)))
      all_goals exact ⟨i + 1, by omega, by omega, ⟨rfl, (by
        show D.s (smallL (s.take i) ++ List.drop (i : Int).toNat (List.take ((i : Int) + 1).toNat s)) = D.s (smallL (s.take (i + 1)))
        rw [hsu, hlow, hat, e1, e2, hone]
        simp), congrArg (D.i .i64) (by omega), trivial⟩, trivial, rfl, fun q hq => by rw [hX] at hq; simp at hq⟩
  · have : i = s.length := by omega
    subst this
    rw [List.take_length]
    repeat' (first
      | with_reducible (first | refine t_seq ?_ | refine t_region ?_ | refine c_nil ?_ | refine n_then ?_ | refine t_ret ?_ | refine t_skip ?_ | refine t_exit ?_ | refine t_block ?_ | refine n_block ?_ | refine e_then ?_ | refine x_then ?_ | refine x_block ?_ | refine t_draw ?_)
      | refine r_val rfl rfl True.intro ?_ | refine r_gskip rfl rfl rfl ?_ | refine r_gskip2 rfl rfl rfl ?_ | refine r_gval rfl rfl rfl rfl True.intro ?_
      | refine t_true rfl ?_ | refine t_false rfl ?_
      | ((first | refine t_cond_d rfl ?_ ?_ | refine t_cond_i rfl ?_ ?_ | refine t_cond_j rfl ?_ ?_ | refine t_cond_s rfl ?_ ?_ | refine t_cond_n rfl ?_ ?_ | refine t_cond rfl ?_ ?_ | refine c_split_d rfl rfl ?_ ?_ | refine c_split_i rfl rfl ?_ ?_ | refine c_split_j rfl rfl ?_ ?_ | refine c_split_s rfl rfl ?_ ?_ | refine c_split_n rfl rfl ?_ ?_) <;> intro <;> try (first | (rename_i hz; exact Bool.noConfusion (show true = false from hz)) | (rename_i hz; exact Bool.noConfusion (show false = true from hz)) | (exfalso; omega)))
      | ((first | refine r_val rfl rfl ?_ ?_ | refine r_gval rfl rfl rfl rfl ?_ ?_ | refine r_obj rfl rfl ?_ ?_ | refine r_sto rfl ?_ ?_ | refine r_gobj rfl rfl rfl rfl ?_ ?_); focus (first | omega | exact Nat.le_of_ble_eq_true rfl | (simp only [wrap_u8, IntKind.wrap_i64, IntKind.wrap_i32, wrap_u32', wrap_u64', InI]; (repeat' refine And.intro ?_ ?_) <;> omega) | ((repeat' refine And.intro ?_ ?_) <;> first | omega | rfl | exact Nat.le_refl _ | exact Nat.le_of_ble_eq_true rfl | exact bytesF_one _) | (simp_all; done) | (simp_all; omega)))
      | refine e_hit rfl ?_ | refine e_miss rfl ?_
      | with_reducible refine ⟨by kernel_rfl, ?_⟩ | refine x_end rfl ?_ | refine n_end rfl ?_ | ((with_reducible refine c_grd ?_); (fail_if_success (refine c_lit true rfl rfl rfl ?_)); (fail_if_success (refine c_lit false rfl rfl rfl ?_)); refine c_split rfl rfl (fun _ => ?_) (fun _ => ?_)))
    all_goals rfl

end Go.Proofs.YtghdgjabpdfaoaaDoor.Flow

/- REQ: pieces and places (plain). -/
namespace Go.Proofs.YtghdgjabpdfaoaaDoor.Flow
open Go

theorem index_one (c : UInt8) : ∀ s : List UInt8, Lib.index s [c] = if fndN c s < s.length then (fndN c s : Int) else -1
  | [] => rfl
  | b :: l => by
    have ih := index_one c l
    unfold Lib.index
    by_cases e : b = c
    · subst e
      have e1 : fndN b (b :: l) = 0 := by
        unfold fndN
        rw [List.takeWhile_cons, if_neg (by simp)]
        rfl
      rw [e1, if_pos (by simp), if_pos (by simp)]
      rfl
    · have e1 : fndN c (b :: l) = fndN c l + 1 := by
        unfold fndN
        rw [List.takeWhile_cons, if_pos (by simpa using e)]
        rfl
      have e2 : ¬ ([c].isPrefixOf (b :: l) = true) := by
        simp
        exact fun h => e h.symm
      rw [e1, if_neg e2, ih, List.length_cons]
      by_cases h : fndN c l < l.length
      · rw [if_pos h, if_neg (by simp), if_pos (by omega)]
        push_cast
        rfl
      · rw [if_neg h, if_pos (show ((-1 : Int) == -1) = true from rfl), if_neg (by omega)]
theorem cut_one (c : UInt8) (s : List UInt8) : Lib.cut s [c] = if fndN c s < s.length then (s.take (fndN c s), s.drop (fndN c s + 1), true) else (s, [], false) := by
  unfold Lib.cut
  rw [index_one]
  by_cases h : fndN c s < s.length
  · rw [if_pos h, if_pos h, if_pos (by omega)]
    rfl
  · rw [if_neg h, if_neg h, if_neg (by decide)]

theorem splitL_eq (s sep : List UInt8) (h1 : 1 ≤ sep.length) : splitL s sep = if Lib.index s sep = -1 then [s] else s.take (Lib.index s sep).toNat :: splitL (s.drop ((Lib.index s sep).toNat + sep.length)) sep := by
  have hI : Lib.indexB ⟨s.toArray⟩ ⟨sep.toArray⟩ = Lib.index s sep := rfl
  have hsz : (ByteArray.mk sep.toArray).size = sep.length := by simp [ByteArray.size]
  unfold splitL
  by_cases h : Lib.index s sep = -1
  · rw [if_pos h, Lib.countB_miss _ _ (hI.trans h), Lib.splitB_zero]
    rfl
  · rw [if_neg h]
    rcases Lib.indexB_cases ⟨s.toArray⟩ ⟨sep.toArray⟩ with hix | ⟨i, hix, hroom⟩
    · exact absurd (hI.symm.trans hix) h
    · have hi : Lib.index s sep = i := hI.symm.trans hix
      have hext : (ByteArray.mk s.toArray).extract (i + sep.length) (ByteArray.mk s.toArray).size = ⟨(s.drop (i + sep.length)).toArray⟩ := by
        apply ByteArray.ext
        simp [ByteArray.size]
        rw [List.take_of_length_le (by rw [List.length_drop]; omega)]
      rw [Lib.countB_hit _ _ i (by rw [hsz]; exact h1) hix, Nat.add_comm 1, Lib.splitB_hit _ _ _ _ i hix, hi, Int.toNat_natCast, List.map_cons, hsz, hext]
      congr 1
      simp
theorem splitL_one (c : UInt8) (s : List UInt8) : splitL s [c] = if fndN c s < s.length then s.take (fndN c s) :: splitL (s.drop (fndN c s + 1)) [c] else [s] := by
  rw [splitL_eq s [c] (Nat.le_refl 1), index_one]
  by_cases h : fndN c s < s.length
  · rw [if_pos h, if_pos h, if_neg (by omega), Int.toNat_natCast]
    rfl
  · rw [if_neg h, if_neg h, if_pos rfl]

/-- A part's quality, if it has a name. -/
def qrV (s name : List UInt8) : Int × Bool := if (elemV s).2.2 = true ∧ (elemV s).1 = name then ((elemV s).2.1, true) else (0, false)
/-- The same by the document's words. -/
def qrW (s name : List UInt8) : Int × Bool :=
  let T := Lib.trimS s bl
  let k := fndN 59 T
  let r := Lib.trimS (T.drop (k + 1)) bl
  if ¬ smallL (Lib.trimS (T.take k) bl) = name then (0, false)
  else if k = T.length then (1000, true)
  else if r.length < 2 ∨ (¬ at' r 0 = 113 ∧ ¬ at' r 0 = 81) ∨ ¬ at' r 1 = 61 then (0, false)
  else qualV (r.drop 2)

end Go.Proofs.YtghdgjabpdfaoaaDoor.Flow

/- REQ: the document's: qualities by names; is gzip taken? -/
namespace Go.Proofs.YtghdgjabpdfaoaaDoor.Flow
open Go

def bestD (name : List UInt8) (vs : List (List UInt8)) : D := match iget name (valsV vs) with
  | some q => .tu [.i .i64 q, .b true]
  | none => .tu [.i .i64 0, .b false]

end Go.Proofs.YtghdgjabpdfaoaaDoor.Flow
