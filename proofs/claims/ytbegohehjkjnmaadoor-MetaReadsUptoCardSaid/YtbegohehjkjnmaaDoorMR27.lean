/- The texts RU14, RU15, one behind the other. -/
import Derived.Test.YtbegohehjkjnmaaDoorMR26
namespace Go.Proofs.YtbegohehjkjnmaaDoor.Flow
open Go

theorem at_bu0 : at' ({ data := #[92, 117] } : ByteArray).data.toList (4 - 4) = 92 := by decide
theorem at_bu1 : at' ({ data := #[92, 117] } : ByteArray).data.toList (5 - 4) = 117 := by decide

set_option maxHeartbeats 1000000 in
theorem rcode_ctr (s : List UInt8) (i : Int) (hs : s.length ≤ 1099511627776) (h0 : 0 ≤ i) (h1 : i ≤ s.length) :
    Ctr Tryd.prog 66 [.s s, .i .i64 i] (.tu [.i .i64 (codeR s i).1, .i .i64 (codeR s i).2.1, .i .i64 (codeR s i).2.2]) := by
  have c1 := rfour_ctr s i hs h0 h1
  have r1 := fourG_range s 4 0 i h0 h1 (by omega)
  have c2 : i + 6 ≤ s.length → _ := fun h => rfour_ctr s (i + 6) hs (by omega) (by omega)
  have r2 : i + 6 ≤ s.length → _ := fun h => fourG_range s 4 0 (i + 6) (by omega) (by omega) (by omega)
  generalize hR : codeR s i = R
  unfold codeR at hR
  generalize fourG s 4 0 i = x at c1 r1 hR
  generalize fourG s 4 0 (i + 6) = y at c2 r2 hR
  obtain ⟨n, j, e⟩ := x
  obtain ⟨m, j2, f⟩ := y
  dsimp only at c1 r1 c2 r2 hR
  have rn : 0 ≤ n ∧ n < 65536 := by omega
  have rm : i + 6 ≤ s.length → 0 ≤ m ∧ m < 65536 := fun h => by have := r2 h; omega
  clear r1 r2
  replace hR := fun _ : Unit => hR.symm
  refine r_fun Tryd.func66 rfl Tryd.ntmps66 Tryd.results66 rfl rfl fun X hL hX => ?_
  repeat' (first |with_reducible (first |refine t_seq ?_|refine t_region ?_|refine c_nil ?_|refine n_then ?_|refine t_ret ?_|refine t_skip ?_|refine t_exit ?_|refine t_block ?_|refine n_block ?_|refine e_then ?_|refine x_then ?_|refine x_block ?_|refine t_draw ?_)|refine r_val rfl rfl True.intro ?_|refine r_gskip rfl rfl rfl ?_|refine r_gskip2 rfl rfl rfl ?_|refine r_gval rfl rfl rfl rfl True.intro ?_|refine t_true rfl ?_|refine t_false rfl ?_|((first |refine t_cond_d rfl ?_ ?_|refine t_cond_i rfl ?_ ?_|refine t_cond_j rfl ?_ ?_|refine t_cond_s rfl ?_ ?_|refine t_cond_n rfl ?_ ?_|refine t_cond rfl ?_ ?_|refine c_split_d rfl rfl ?_ ?_|refine c_split_i rfl rfl ?_ ?_|refine c_split_j rfl rfl ?_ ?_|refine c_split_s rfl rfl ?_ ?_|refine c_split_n rfl rfl ?_ ?_)<;>intro<;>try (first |contradiction|(exfalso;omega)))|((first |refine r_val rfl rfl ?_ ?_|refine r_gval rfl rfl rfl rfl ?_ ?_|refine r_obj rfl rfl ?_ ?_|refine r_sto rfl ?_ ?_|refine r_gobj rfl rfl rfl rfl ?_ ?_);focus (first |omega|exact le_ rfl|((repeat first |rw [wrap_u8]|rw [IntKind.wrap_i64]|rw [IntKind.wrap_i32]|rw [wrap_u32']|rw [wrap_u64']);(repeat' refine And.intro ?_ ?_)<;>omega)|((repeat' refine And.intro ?_ ?_)<;>first |omega|rfl|exact Nat.le_refl _|exact le_ rfl|exact bytesF_one _)|(simp_all;done)|(simp_all;omega)))|refine e_hit rfl ?_|refine e_miss rfl ?_|with_reducible refine ⟨by kernel_rfl, ?_⟩|refine x_end rfl ?_|refine r_call (f := 87) rfl rfl Tryd.call87 rfl c1 ?_|((with_reducible refine c_grd ?_);(fail_if_success (refine c_lit true rfl rfl rfl ?_));(fail_if_success (refine c_lit false rfl rfl rfl ?_));refine c_split rfl rfl (fun _ => ?_) (fun _ => ?_)))
  · rw [hR (), if_neg ‹_›]
  · rw [hR (), if_pos ‹_›, if_pos ⟨‹_›, ‹_›⟩]
  · rw [hR (), if_pos ‹_›, if_neg (by omega), if_pos (by omega)]
  · rw [hR (), if_pos ‹_›, if_neg (by omega), if_pos (by omega)]
  have g1 : 56320 ≤ n ∧ n < 57344 → False := fun h => by omega
  have hR : Unit → R = _ := fun _ => (hR ()).trans ((if_pos ‹_›).trans ((if_neg g1).trans (if_neg (by omega))))
  refine T.loop hL (fun k : Int => [(0, .s s), (1, .i .i64 i), (7, .i .i64 n), (9, .i .i64 k)]) (fun _ => []) (fun k => k = 4 ∨ k = 5 ∧ i + 4 < s.length ∧ at' s (i + 4) = 92 ∨ k = 6 ∧ i + 4 < s.length ∧ at' s (i + 4) = 92 ∧ i + 5 < s.length ∧ at' s (i + 5) = 117) (fun k => (6 - k).toNat) 4 (.inl rfl)
    ⟨⟨rfl, rfl, rfl, rfl, trivial⟩, trivial, rfl, by rw [hX]; intro k hk; cases hk⟩ ?_
  intro k hk
  have q0 := at_bu0
  have q1 := at_bu1
  rcases hk with rfl | ⟨rfl, k1, k2⟩ | ⟨rfl, k1, k2, k3, k4⟩
  · have hr := at_range s (i + 4)
    repeat' (first |with_reducible (first |refine t_seq ?_|refine t_region ?_|refine c_nil ?_|refine n_then ?_|refine t_ret ?_|refine t_skip ?_|refine t_exit ?_|refine t_block ?_|refine n_block ?_|refine e_then ?_|refine x_then ?_|refine x_block ?_|refine t_draw ?_)|refine r_val rfl rfl True.intro ?_|refine r_gskip rfl rfl rfl ?_|refine r_gskip2 rfl rfl rfl ?_|refine r_gval rfl rfl rfl rfl True.intro ?_|refine t_true rfl ?_|refine t_false rfl ?_|((first |refine t_cond_d rfl ?_ ?_|refine t_cond_i rfl ?_ ?_|refine t_cond_j rfl ?_ ?_|refine t_cond_s rfl ?_ ?_|refine t_cond_n rfl ?_ ?_|refine t_cond rfl ?_ ?_|refine c_split_d rfl rfl ?_ ?_|refine c_split_i rfl rfl ?_ ?_|refine c_split_j rfl rfl ?_ ?_|refine c_split_s rfl rfl ?_ ?_|refine c_split_n rfl rfl ?_ ?_)<;>intro<;>try (first |contradiction|(exfalso;omega)))|((first |refine r_val rfl rfl ?_ ?_|refine r_gval rfl rfl rfl rfl ?_ ?_|refine r_obj rfl rfl ?_ ?_|refine r_sto rfl ?_ ?_|refine r_gobj rfl rfl rfl rfl ?_ ?_);focus (first |omega|exact le_ rfl|((repeat first |rw [wrap_u8]|rw [IntKind.wrap_i64]|rw [IntKind.wrap_i32]|rw [wrap_u32']|rw [wrap_u64']);(repeat' refine And.intro ?_ ?_)<;>omega)|((repeat' refine And.intro ?_ ?_)<;>first |omega|rfl|exact Nat.le_refl _|exact le_ rfl|exact bytesF_one _)|(simp_all;done)|(simp_all;omega)))|refine e_hit rfl ?_|refine e_miss rfl ?_|with_reducible refine ⟨by kernel_rfl, ?_⟩|refine x_end rfl ?_|((with_reducible refine c_grd ?_);(fail_if_success (refine c_lit true rfl rfl rfl ?_));(fail_if_success (refine c_lit false rfl rfl rfl ?_));refine c_split rfl rfl (fun _ => ?_) (fun _ => ?_)))
    · rw [hR (), if_neg (by omega)]
    · rw [hR (), if_pos (by omega), if_neg (by omega)]
    · exact ⟨5, .inr (.inl ⟨rfl, by omega, by omega⟩), by decide, ⟨rfl, rfl, rfl, rfl, trivial⟩, trivial, rfl, by rw [hX]; intro k hk; cases hk⟩
  ·
    repeat' (first |with_reducible (first |refine t_seq ?_|refine t_region ?_|refine c_nil ?_|refine n_then ?_|refine t_ret ?_|refine t_skip ?_|refine t_exit ?_|refine t_block ?_|refine n_block ?_|refine e_then ?_|refine x_then ?_|refine x_block ?_|refine t_draw ?_)|refine r_val rfl rfl True.intro ?_|refine r_gskip rfl rfl rfl ?_|refine r_gskip2 rfl rfl rfl ?_|refine r_gval rfl rfl rfl rfl True.intro ?_|refine t_true rfl ?_|refine t_false rfl ?_|((first |refine t_cond_d rfl ?_ ?_|refine t_cond_i rfl ?_ ?_|refine t_cond_j rfl ?_ ?_|refine t_cond_s rfl ?_ ?_|refine t_cond_n rfl ?_ ?_|refine t_cond rfl ?_ ?_|refine c_split_d rfl rfl ?_ ?_|refine c_split_i rfl rfl ?_ ?_|refine c_split_j rfl rfl ?_ ?_|refine c_split_s rfl rfl ?_ ?_|refine c_split_n rfl rfl ?_ ?_)<;>intro<;>try (first |contradiction|(exfalso;omega)))|((first |refine r_val rfl rfl ?_ ?_|refine r_gval rfl rfl rfl rfl ?_ ?_|refine r_obj rfl rfl ?_ ?_|refine r_sto rfl ?_ ?_|refine r_gobj rfl rfl rfl rfl ?_ ?_);focus (first |omega|exact le_ rfl|((repeat first |rw [wrap_u8]|rw [IntKind.wrap_i64]|rw [IntKind.wrap_i32]|rw [wrap_u32']|rw [wrap_u64']);(repeat' refine And.intro ?_ ?_)<;>omega)|((repeat' refine And.intro ?_ ?_)<;>first |omega|rfl|exact Nat.le_refl _|exact le_ rfl|exact bytesF_one _)|(simp_all;done)|(simp_all;omega)))|refine e_hit rfl ?_|refine e_miss rfl ?_|with_reducible refine ⟨by kernel_rfl, ?_⟩|refine x_end rfl ?_|((with_reducible refine c_grd ?_);(fail_if_success (refine c_lit true rfl rfl rfl ?_));(fail_if_success (refine c_lit false rfl rfl rfl ?_));refine c_split rfl rfl (fun _ => ?_) (fun _ => ?_)))
    · rw [hR (), if_pos k1, if_pos k2, if_neg (by omega)]
    · rw [hR (), if_pos k1, if_pos k2, if_pos (by omega), if_neg (by omega)]
    · exact ⟨6, .inr (.inr ⟨rfl, by omega, by omega, by omega, by omega⟩), by decide, ⟨rfl, rfl, rfl, rfl, trivial⟩, trivial, rfl, by rw [hX]; intro k hk; cases hk⟩
  · have c2 := c2 (by omega)
    have rm := rm (by omega)
    repeat' (first |with_reducible (first |refine t_seq ?_|refine t_region ?_|refine c_nil ?_|refine n_then ?_|refine t_ret ?_|refine t_skip ?_|refine t_exit ?_|refine t_block ?_|refine n_block ?_|refine e_then ?_|refine x_then ?_|refine x_block ?_|refine t_draw ?_)|refine r_val rfl rfl True.intro ?_|refine r_gskip rfl rfl rfl ?_|refine r_gskip2 rfl rfl rfl ?_|refine r_gval rfl rfl rfl rfl True.intro ?_|refine t_true rfl ?_|refine t_false rfl ?_|((first |refine t_cond_d rfl ?_ ?_|refine t_cond_i rfl ?_ ?_|refine t_cond_j rfl ?_ ?_|refine t_cond_s rfl ?_ ?_|refine t_cond_n rfl ?_ ?_|refine t_cond rfl ?_ ?_|refine c_split_d rfl rfl ?_ ?_|refine c_split_i rfl rfl ?_ ?_|refine c_split_j rfl rfl ?_ ?_|refine c_split_s rfl rfl ?_ ?_|refine c_split_n rfl rfl ?_ ?_)<;>intro<;>try (first |contradiction|(exfalso;omega)))|((first |refine r_val rfl rfl ?_ ?_|refine r_gval rfl rfl rfl rfl ?_ ?_|refine r_obj rfl rfl ?_ ?_|refine r_sto rfl ?_ ?_|refine r_gobj rfl rfl rfl rfl ?_ ?_);focus (first |omega|exact le_ rfl|((repeat first |rw [wrap_u8]|rw [IntKind.wrap_i64]|rw [IntKind.wrap_i32]|rw [wrap_u32']|rw [wrap_u64']);(repeat' refine And.intro ?_ ?_)<;>omega)|((repeat' refine And.intro ?_ ?_)<;>first |omega|rfl|exact Nat.le_refl _|exact le_ rfl|exact bytesF_one _)|(simp_all;done)|(simp_all;omega)))|refine e_hit rfl ?_|refine e_miss rfl ?_|with_reducible refine ⟨by kernel_rfl, ?_⟩|refine x_end rfl ?_|refine r_call (f := 87) rfl rfl Tryd.call87 rfl c2 ?_|((with_reducible refine c_grd ?_);(fail_if_success (refine c_lit true rfl rfl rfl ?_));(fail_if_success (refine c_lit false rfl rfl rfl ?_));refine c_split rfl rfl (fun _ => ?_) (fun _ => ?_)))
    · rw [hR (), if_pos k1, if_pos k2, if_pos k3, if_pos k4, if_neg ‹_›]
    · rw [hR (), if_pos k1, if_pos k2, if_pos k3, if_pos k4, if_pos ‹_›, if_pos (by omega)]
    · rw [hR (), if_pos k1, if_pos k2, if_pos k3, if_pos k4, if_pos ‹_›, if_pos (by omega)]
    · rw [hR (), if_pos k1, if_pos k2, if_pos k3, if_pos k4, if_pos ‹_›, if_neg (by omega)]
      rfl

theorem codeR_range (s : List UInt8) (i : Int) (h0 : 0 ≤ i) (h1 : i ≤ s.length) : 0 ≤ (codeR s i).1 ∧ (codeR s i).1 ≤ 1114111 ∧ ((codeR s i).2.2 = 0 → i + 4 ≤ (codeR s i).2.1 ∧ (codeR s i).2.1 ≤ s.length) := by
  have r1 := fourG_range s 4 0 i h0 h1 (by omega)
  have r2 : i + 6 ≤ s.length → _ := fun h => fourG_range s 4 0 (i + 6) (by omega) (by omega) (by omega)
  unfold codeR
  generalize fourG s 4 0 i = x at r1 ⊢
  generalize fourG s 4 0 (i + 6) = y at r2 ⊢
  obtain ⟨n, j, e⟩ := x
  obtain ⟨m, j2, f⟩ := y
  dsimp only at r1 r2 ⊢
  obtain ⟨a1, a2, a3, a4, a5, a6, a7⟩ := r1
  split
  · split
    · dsimp only; omega
    · split
      · dsimp only; omega
      · split
        · split
          · split
            · split
              · obtain ⟨b1, b2, b3, b4, b5, b6, b7⟩ := r2 (by omega)
                split
                · split
                  · dsimp only; omega
                  · dsimp only [pairF]; omega
                · dsimp only; omega
              · dsimp only; omega
            · dsimp only; omega
          · dsimp only; omega
        · dsimp only; omega
  · dsimp only; omega

abbrev escFrom : List UInt8 := [34, 92, 47, 98, 102, 110, 114, 116]
abbrev escTo : List UInt8 := [34, 92, 47, 8, 12, 10, 13, 9]

def whichF (k : Int) : Nat → Int
  | 0 => -1
  | j + 1 => if at' escFrom j = k then j else whichF k j

theorem whichF_8 (k : Int) : (whichF k 8 = -1 ∧ escE k = 3) ∨ (0 ≤ whichF k 8 ∧ whichF k 8 < 8 ∧ escE k = 0 ∧ at' escTo (whichF k 8) = escV k) := by
  have a0 : at' escFrom ((0 : Nat) : Int) = 34 := by decide
  have a1 : at' escFrom ((1 : Nat) : Int) = 92 := by decide
  have a2 : at' escFrom ((2 : Nat) : Int) = 47 := by decide
  have a3 : at' escFrom ((3 : Nat) : Int) = 98 := by decide
  have a4 : at' escFrom ((4 : Nat) : Int) = 102 := by decide
  have a5 : at' escFrom ((5 : Nat) : Int) = 110 := by decide
  have a6 : at' escFrom ((6 : Nat) : Int) = 114 := by decide
  have a7 : at' escFrom ((7 : Nat) : Int) = 116 := by decide
  by_cases c0 : k = 34
  · subst c0; exact .inr (by decide)
  by_cases c1 : k = 92
  · subst c1; exact .inr (by decide)
  by_cases c2 : k = 47
  · subst c2; exact .inr (by decide)
  by_cases c3 : k = 98
  · subst c3; exact .inr (by decide)
  by_cases c4 : k = 102
  · subst c4; exact .inr (by decide)
  by_cases c5 : k = 110
  · subst c5; exact .inr (by decide)
  by_cases c6 : k = 114
  · subst c6; exact .inr (by decide)
  by_cases c7 : k = 116
  · subst c7; exact .inr (by decide)
  left
  unfold escE
  rw [if_neg (by omega)]
  simp only [whichF, a0, a1, a2, a3, a4, a5, a6, a7]
  rw [if_neg (by omega), if_neg (by omega), if_neg (by omega), if_neg (by omega), if_neg (by omega), if_neg (by omega), if_neg (by omega), if_neg (by omega)]
  exact ⟨rfl, trivial⟩

theorem gs_bytesN (k : Nat) (l xs : List UInt8) (m : Nat) (hm : m = xs.length) : D.gs k 1 (l.length + m) (catF l.length (bytesF l) m (bytesF xs)) = D.gs k 1 (l ++ xs).length (bytesF (l ++ xs)) :=
  gs_bytes k l xs m _ hm fun _ _ => rfl

set_option maxHeartbeats 2000000 in
theorem runq_ctr (s : List UInt8) (i : Int) (hs : s.length ≤ 1048576) : Ctr Tryd.prog 45 [.s s, .i .i64 i] (.tu [.s (unqF s i).1, .i .i64 (unqF s i).2.1, .i .i64 (unqF s i).2.2]) := by
  by_cases hb : i < 0 ∨ s.length < i
  · unfold unqF
    rw [if_pos hb]
    refine r_fun Tryd.func45 rfl Tryd.ntmps45 Tryd.results45 rfl rfl fun X hL hX => ?_
    repeat' (first |with_reducible (first |refine t_seq ?_|refine t_region ?_|refine c_nil ?_|refine n_then ?_|refine t_ret ?_|refine t_skip ?_|refine t_exit ?_|refine t_block ?_|refine n_block ?_|refine e_then ?_|refine x_then ?_|refine x_block ?_|refine t_draw ?_)|refine r_val rfl rfl True.intro ?_|refine r_gskip rfl rfl rfl ?_|refine r_gskip2 rfl rfl rfl ?_|refine r_gval rfl rfl rfl rfl True.intro ?_|refine t_true rfl ?_|refine t_false rfl ?_|((first |refine t_cond_d rfl ?_ ?_|refine t_cond_i rfl ?_ ?_|refine t_cond_j rfl ?_ ?_|refine t_cond_s rfl ?_ ?_|refine t_cond_n rfl ?_ ?_|refine t_cond rfl ?_ ?_|refine c_split_d rfl rfl ?_ ?_|refine c_split_i rfl rfl ?_ ?_|refine c_split_j rfl rfl ?_ ?_|refine c_split_s rfl rfl ?_ ?_|refine c_split_n rfl rfl ?_ ?_)<;>intro<;>try (first |(rename_i hz;first |exact tf_ hz|exact ft_ hz)|(exfalso;omega)))|((first |refine r_val rfl rfl ?_ ?_|refine r_gval rfl rfl rfl rfl ?_ ?_|refine r_obj rfl rfl ?_ ?_|refine r_sto rfl ?_ ?_|refine r_gobj rfl rfl rfl rfl ?_ ?_);focus (first |omega|exact le_ rfl|((repeat first |rw [wrap_u8]|rw [IntKind.wrap_i64]|rw [IntKind.wrap_i32]|rw [wrap_u32']|rw [wrap_u64']);(repeat' refine And.intro ?_ ?_)<;>omega)|((repeat' refine And.intro ?_ ?_)<;>first |omega|rfl|exact Nat.le_refl _|exact le_ rfl|exact bytesF_one _)|(simp_all;done)|(simp_all;omega)))|refine e_hit rfl ?_|refine e_miss rfl ?_|with_reducible refine ⟨by kernel_rfl, ?_⟩|refine x_end rfl ?_|((with_reducible refine c_grd ?_);(fail_if_success (refine c_lit true rfl rfl rfl ?_));(fail_if_success (refine c_lit false rfl rfl rfl ?_));refine c_split rfl rfl (fun _ => ?_) (fun _ => ?_)))
    all_goals rfl
  · have h0 : 0 ≤ i := by omega
    have h1 : i ≤ s.length := by omega
    generalize hR : unqF s i = R
    unfold unqF at hR
    rw [if_neg hb] at hR
    replace hR := fun _ : Unit => hR.symm
    have hr := at_range s i
    have m1 : ¬ i < s.length → R = ([], 0, 2) := fun h => by
      rw [hR (), show mustF s i 0 34 = (i, 2) by unfold mustF; rw [nextF_short rfl h]; rfl]
      rfl
    have m2 : i < s.length → ¬ at' s i = 34 → R = ([], 0, 3) := fun h h2 => by
      rw [hR (), show mustF s i 0 34 = (i + 1, 3) by unfold mustF; rw [nextF_ok rfl h]; dsimp only; rw [if_neg h2]; rfl]
      rfl
    have m3 : i < s.length → at' s i = 34 → R = unqG s (s.length + 1 - (i + 1).toNat) (i + 1) [] := fun h h2 => by
      rw [hR (), show mustF s i 0 34 = (i + 1, 0) by unfold mustF; rw [nextF_ok rfl h]; dsimp only; rw [if_pos h2]]
      rfl
    clear hR
    refine r_fun Tryd.func45 rfl Tryd.ntmps45 Tryd.results45 rfl rfl fun X hL hX => ?_
    repeat' (first |with_reducible (first |refine t_seq ?_|refine t_region ?_|refine c_nil ?_|refine n_then ?_|refine t_ret ?_|refine t_skip ?_|refine t_exit ?_|refine t_block ?_|refine n_block ?_|refine e_then ?_|refine x_then ?_|refine x_block ?_|refine t_draw ?_)|refine r_val rfl rfl True.intro ?_|refine r_gskip rfl rfl rfl ?_|refine r_gskip2 rfl rfl rfl ?_|refine r_gval rfl rfl rfl rfl True.intro ?_|refine t_true rfl ?_|refine t_false rfl ?_|((first |refine t_cond_d rfl ?_ ?_|refine t_cond_i rfl ?_ ?_|refine t_cond_j rfl ?_ ?_|refine t_cond_s rfl ?_ ?_|refine t_cond_n rfl ?_ ?_|refine t_cond rfl ?_ ?_|refine c_split_d rfl rfl ?_ ?_|refine c_split_i rfl rfl ?_ ?_|refine c_split_j rfl rfl ?_ ?_|refine c_split_s rfl rfl ?_ ?_|refine c_split_n rfl rfl ?_ ?_)<;>intro<;>try (first |(rename_i hz;first |exact tf_ hz|exact ft_ hz)|(exfalso;omega)))|((first |refine r_val rfl rfl ?_ ?_|refine r_gval rfl rfl rfl rfl ?_ ?_|refine r_obj rfl rfl ?_ ?_|refine r_sto rfl ?_ ?_|refine r_gobj rfl rfl rfl rfl ?_ ?_);focus (first |omega|exact le_ rfl|((repeat first |rw [wrap_u8]|rw [IntKind.wrap_i64]|rw [IntKind.wrap_i32]|rw [wrap_u32']|rw [wrap_u64']);(repeat' refine And.intro ?_ ?_)<;>omega)|((repeat' refine And.intro ?_ ?_)<;>first |omega|rfl|exact Nat.le_refl _|exact le_ rfl|exact bytesF_one _)|(simp_all;done)|(simp_all;omega)))|refine e_hit rfl ?_|refine e_miss rfl ?_|with_reducible refine ⟨by kernel_rfl, ?_⟩|refine x_end rfl ?_|((with_reducible refine c_grd ?_);(fail_if_success (refine c_lit true rfl rfl rfl ?_));(fail_if_success (refine c_lit false rfl rfl rfl ?_));refine c_split rfl rfl (fun _ => ?_) (fun _ => ?_)))
    · rw [m1 (by omega)]
    · rw [m2 (by omega) ‹_›]
    refine T.adopt 7 200 5 1 (bytesF []) rfl rfl ?_
    refine T.loop hL (fun x : Int × List UInt8 => [(0, .s s), (1, .i .i64 x.1), (7, .gs 200 1 x.2.length (bytesF x.2))]) (fun x => [(200, .row 5 1 x.2.length)])
      (fun x => 0 ≤ x.1 ∧ x.1 ≤ s.length ∧ (x.2.length : Int) ≤ 4 * x.1 ∧ (∀ _ : Unit, unqG s (s.length + 1 - x.1.toNat) x.1 x.2 = R)) (fun x => s.length + 1 - x.1.toNat) (i + 1, []) ?_
      ⟨⟨rfl, rfl, rfl, trivial⟩, ⟨rfl, trivial⟩, rfl, by rw [hX]; intro k hk; cases hk⟩ ?_
    · exact ⟨by dsimp only; omega, by dsimp only; omega, by simp; omega, fun _ => (m3 (by omega) (by omega)).symm⟩
    clear m1 m2 m3 hr
    rintro ⟨p, o⟩ ⟨i0, i1, i2, i3⟩
    dsimp only at i0 i1 i2 i3 ⊢
    have done : ∀ (fr : Fr) (ow : Ow) (p' : Int) (o' : List UInt8), getD' 0 fr = .s s → getD' 1 fr = .i .i64 p' → getD' 7 fr = .gs 200 1 o'.length (bytesF o') → leOw ow [(200, .row 5 1 o'.length)] → p < p' → p' ≤ s.length → (o'.length : Int) ≤ 4 * p' → (∀ _ : Unit, unqG s (s.length + 1 - p'.toNat) p' o' = R) →
        ∃ y : Int × List UInt8, (0 ≤ y.1 ∧ y.1 ≤ s.length ∧ (y.2.length : Int) ≤ 4 * y.1 ∧ (∀ _ : Unit, unqG s (s.length + 1 - y.1.toNat) y.1 y.2 = R)) ∧ s.length + 1 - y.1.toNat < s.length + 1 - p.toNat ∧
          Le X fr ow [(0, .s s), (1, .i .i64 y.1), (7, .gs 200 1 y.2.length (bytesF y.2))] [(200, .row 5 1 y.2.length)] := by
      intro fr ow p' o' q1 q2 q3 q4 q5 q6 q7 q8
      exact ⟨(p', o'), ⟨by dsimp only; omega, q6, q7, q8⟩, by dsimp only; omega, ⟨q1, q2, q3, trivial⟩, q4, rfl, by rw [hX]; intro k hk; cases hk⟩
    have ho : o.length ≤ 4194304 := by omega
    have hnn : p < s.length → s.length + 1 - p.toNat = (s.length + 1 - (p + 1).toNat) + 1 := fun h => by omega
    by_cases hp : p < s.length
    · rw [hnn hp] at i3
      have hr := at_range s p
      by_cases c34 : at' s p = 34
      · have cv := rvalid_ctr o (by omega)
        cases hv : validL o with
        | true =>
          rw [hv] at cv
          have i3 := fun _ : Unit => (i3 ()).symm.trans (unqG_quote hp c34 hv)
          clear hv done
          repeat' (first |with_reducible (first |refine t_seq ?_|refine t_region ?_|refine c_nil ?_|refine n_then ?_|refine t_ret ?_|refine t_skip ?_|refine t_exit ?_|refine t_block ?_|refine n_block ?_|refine e_then ?_|refine x_then ?_|refine x_block ?_|refine t_draw ?_)|refine r_val rfl rfl True.intro ?_|refine r_gskip rfl rfl rfl ?_|refine r_gskip2 rfl rfl rfl ?_|refine r_gval rfl rfl rfl rfl True.intro ?_|refine t_true rfl ?_|refine t_false rfl ?_|((first |refine t_cond_d rfl ?_ ?_|refine t_cond_i rfl ?_ ?_|refine t_cond_j rfl ?_ ?_|refine t_cond_s rfl ?_ ?_|refine t_cond_n rfl ?_ ?_|refine t_cond rfl ?_ ?_|refine c_split_d rfl rfl ?_ ?_|refine c_split_i rfl rfl ?_ ?_|refine c_split_j rfl rfl ?_ ?_|refine c_split_s rfl rfl ?_ ?_|refine c_split_n rfl rfl ?_ ?_)<;>intro<;>try (first |(rename_i hz;first |exact tf_ hz|exact ft_ hz)|(exfalso;omega)))|((first |refine r_val rfl rfl ?_ ?_|refine r_gval rfl rfl rfl rfl ?_ ?_|refine r_obj rfl rfl ?_ ?_|refine r_sto rfl ?_ ?_|refine r_gobj rfl rfl rfl rfl ?_ ?_);focus (first |omega|exact le_ rfl|((repeat first |rw [wrap_u8]|rw [IntKind.wrap_i64]|rw [IntKind.wrap_i32]|rw [wrap_u32']|rw [wrap_u64']);(repeat' refine And.intro ?_ ?_)<;>omega)|((repeat' refine And.intro ?_ ?_)<;>first |omega|rfl|exact Nat.le_refl _|exact le_ rfl|exact bytesF_one _)|(simp_all;done)|(simp_all;omega)))|refine e_hit rfl ?_|refine e_miss rfl ?_|with_reducible refine ⟨by kernel_rfl, ?_⟩|refine x_end rfl ?_|refine r_call (f := 65) rfl rfl Tryd.call65 rfl (by rw [bytesOf_bytesF];exact cv) ?_|((with_reducible refine c_grd ?_);(fail_if_success (refine c_lit true rfl rfl rfl ?_));(fail_if_success (refine c_lit false rfl rfl rfl ?_));refine c_split rfl rfl (fun _ => ?_) (fun _ => ?_)))
          rw [i3 (), bytesOf_bytesF]
        | false =>
          rw [hv] at cv
          have i3 := fun _ : Unit => (i3 ()).symm.trans (unqG_bad hp c34 hv)
          clear hv done
          repeat' (first |with_reducible (first |refine t_seq ?_|refine t_region ?_|refine c_nil ?_|refine n_then ?_|refine t_ret ?_|refine t_skip ?_|refine t_exit ?_|refine t_block ?_|refine n_block ?_|refine e_then ?_|refine x_then ?_|refine x_block ?_|refine t_draw ?_)|refine r_val rfl rfl True.intro ?_|refine r_gskip rfl rfl rfl ?_|refine r_gskip2 rfl rfl rfl ?_|refine r_gval rfl rfl rfl rfl True.intro ?_|refine t_true rfl ?_|refine t_false rfl ?_|((first |refine t_cond_d rfl ?_ ?_|refine t_cond_i rfl ?_ ?_|refine t_cond_j rfl ?_ ?_|refine t_cond_s rfl ?_ ?_|refine t_cond_n rfl ?_ ?_|refine t_cond rfl ?_ ?_|refine c_split_d rfl rfl ?_ ?_|refine c_split_i rfl rfl ?_ ?_|refine c_split_j rfl rfl ?_ ?_|refine c_split_s rfl rfl ?_ ?_|refine c_split_n rfl rfl ?_ ?_)<;>intro<;>try (first |(rename_i hz;first |exact tf_ hz|exact ft_ hz)|(exfalso;omega)))|((first |refine r_val rfl rfl ?_ ?_|refine r_gval rfl rfl rfl rfl ?_ ?_|refine r_obj rfl rfl ?_ ?_|refine r_sto rfl ?_ ?_|refine r_gobj rfl rfl rfl rfl ?_ ?_);focus (first |omega|exact le_ rfl|((repeat first |rw [wrap_u8]|rw [IntKind.wrap_i64]|rw [IntKind.wrap_i32]|rw [wrap_u32']|rw [wrap_u64']);(repeat' refine And.intro ?_ ?_)<;>omega)|((repeat' refine And.intro ?_ ?_)<;>first |omega|rfl|exact Nat.le_refl _|exact le_ rfl|exact bytesF_one _)|(simp_all;done)|(simp_all;omega)))|refine e_hit rfl ?_|refine e_miss rfl ?_|with_reducible refine ⟨by kernel_rfl, ?_⟩|refine x_end rfl ?_|refine r_call (f := 65) rfl rfl Tryd.call65 rfl (by rw [bytesOf_bytesF];exact cv) ?_|((with_reducible refine c_grd ?_);(fail_if_success (refine c_lit true rfl rfl rfl ?_));(fail_if_success (refine c_lit false rfl rfl rfl ?_));refine c_split rfl rfl (fun _ => ?_) (fun _ => ?_)))
          rw [i3 ()]
      · by_cases c92 : at' s p = 92
        · have ce := escP_range s (p + 1) o (by omega) (by omega)
          have i3 := fun _ : Unit => (i3 ()).symm.trans (unqG_esc hp c92)
          by_cases hp1 : p + 1 < s.length
          · have hr1 := at_range s (p + 1)
            by_cases c117 : at' s (p + 1) = 117
            · have he : escP s (p + 1) o = codeP s (p + 1 + 1) o := by unfold escP; rw [if_pos hp1, if_pos c117]
              rw [he] at ce
              have i3 := fun _ : Unit => he ▸ i3 ()
              clear he
              have cc := rcode_ctr s (p + 1 + 1) (by omega) (by omega) (by omega)
              have cR := codeP_R s (p + 1 + 1) o (by omega) (by omega)
              have cg := codeR_range s (p + 1 + 1) (by omega) (by omega)
              generalize codeP s (p + 1 + 1) o = E at i3 cR ce
              generalize codeR s (p + 1 + 1) = C at cc cR cg
              obtain ⟨a, b, e⟩ := C
              obtain ⟨a', b', e'⟩ := E
              dsimp only at cc cR cg i3 ce
              obtain ⟨rfl, cR⟩ := cR
              have cb := rbytes_ctr a cg.1 cg.2.1
              have ul := utfB_len a
              by_cases e0 : e' = 0
              · obtain ⟨rfl, rfl⟩ := cR e0
                have cg3 := cg.2.2 e0
                subst e0
                clear cg cR
                repeat' (first |with_reducible (first |refine t_seq ?_|refine t_region ?_|refine c_nil ?_|refine n_then ?_|refine t_ret ?_|refine t_skip ?_|refine t_exit ?_|refine t_block ?_|refine n_block ?_|refine e_then ?_|refine x_then ?_|refine x_block ?_|refine t_draw ?_)|refine r_val rfl rfl True.intro ?_|refine r_gskip rfl rfl rfl ?_|refine r_gskip2 rfl rfl rfl ?_|refine r_gval rfl rfl rfl rfl True.intro ?_|refine t_true rfl ?_|refine t_false rfl ?_|((first |refine t_cond_d rfl ?_ ?_|refine t_cond_i rfl ?_ ?_|refine t_cond_j rfl ?_ ?_|refine t_cond_s rfl ?_ ?_|refine t_cond_n rfl ?_ ?_|refine t_cond rfl ?_ ?_|refine c_split_d rfl rfl ?_ ?_|refine c_split_i rfl rfl ?_ ?_|refine c_split_j rfl rfl ?_ ?_|refine c_split_s rfl rfl ?_ ?_|refine c_split_n rfl rfl ?_ ?_)<;>intro<;>try (first |(rename_i hz;first |exact tf_ hz|exact ft_ hz)|(exfalso;omega)))|((first |refine r_val rfl rfl ?_ ?_|refine r_gval rfl rfl rfl rfl ?_ ?_|refine r_obj rfl rfl ?_ ?_|refine r_sto rfl ?_ ?_|refine r_gobj rfl rfl rfl rfl ?_ ?_);focus (first |omega|exact le_ rfl|((repeat first |rw [wrap_u8]|rw [IntKind.wrap_i64]|rw [IntKind.wrap_i32]|rw [wrap_u32']|rw [wrap_u64']);(repeat' refine And.intro ?_ ?_)<;>omega)|((repeat' refine And.intro ?_ ?_)<;>first |omega|rfl|exact Nat.le_refl _|exact le_ rfl|exact bytesF_one _)|(simp_all;done)|(simp_all;omega)))|refine e_hit rfl ?_|refine e_miss rfl ?_|with_reducible refine ⟨by kernel_rfl, ?_⟩|refine x_end rfl ?_|refine r_call (f := 66) rfl rfl Tryd.call66 rfl cc ?_|refine r_call (f := 67) rfl rfl Tryd.call67 rfl cb ?_|((with_reducible refine c_grd ?_);(fail_if_success (refine c_lit true rfl rfl rfl ?_));(fail_if_success (refine c_lit false rfl rfl rfl ?_));refine c_split rfl rfl (fun _ => ?_) (fun _ => ?_)))
                refine done _ _ a' (o ++ utfB a) rfl rfl (gs_bytesN _ _ _ _ rfl) ⟨by rw [List.length_append]; rfl, trivial⟩ (by omega) (by omega) (by rw [List.length_append]; omega) (fun _ => ?_)
                rw [i3 (), if_pos rfl]
                exact unqG_ge s _ _ a' _ (by omega) (by omega) (by omega) (by omega)
              · clear done cR
                repeat' (first |with_reducible (first |refine t_seq ?_|refine t_region ?_|refine c_nil ?_|refine n_then ?_|refine t_ret ?_|refine t_skip ?_|refine t_exit ?_|refine t_block ?_|refine n_block ?_|refine e_then ?_|refine x_then ?_|refine x_block ?_|refine t_draw ?_)|refine r_val rfl rfl True.intro ?_|refine r_gskip rfl rfl rfl ?_|refine r_gskip2 rfl rfl rfl ?_|refine r_gval rfl rfl rfl rfl True.intro ?_|refine t_true rfl ?_|refine t_false rfl ?_|((first |refine t_cond_d rfl ?_ ?_|refine t_cond_i rfl ?_ ?_|refine t_cond_j rfl ?_ ?_|refine t_cond_s rfl ?_ ?_|refine t_cond_n rfl ?_ ?_|refine t_cond rfl ?_ ?_|refine c_split_d rfl rfl ?_ ?_|refine c_split_i rfl rfl ?_ ?_|refine c_split_j rfl rfl ?_ ?_|refine c_split_s rfl rfl ?_ ?_|refine c_split_n rfl rfl ?_ ?_)<;>intro<;>try (first |(rename_i hz;first |exact tf_ hz|exact ft_ hz)|(exfalso;omega)))|((first |refine r_val rfl rfl ?_ ?_|refine r_gval rfl rfl rfl rfl ?_ ?_|refine r_obj rfl rfl ?_ ?_|refine r_sto rfl ?_ ?_|refine r_gobj rfl rfl rfl rfl ?_ ?_);focus (first |omega|exact le_ rfl|((repeat first |rw [wrap_u8]|rw [IntKind.wrap_i64]|rw [IntKind.wrap_i32]|rw [wrap_u32']|rw [wrap_u64']);(repeat' refine And.intro ?_ ?_)<;>omega)|((repeat' refine And.intro ?_ ?_)<;>first |omega|rfl|exact Nat.le_refl _|exact le_ rfl|exact bytesF_one _)|(simp_all;done)|(simp_all;omega)))|refine e_hit rfl ?_|refine e_miss rfl ?_|with_reducible refine ⟨by kernel_rfl, ?_⟩|refine x_end rfl ?_|refine r_call (f := 66) rfl rfl Tryd.call66 rfl cc ?_|((with_reducible refine c_grd ?_);(fail_if_success (refine c_lit true rfl rfl rfl ?_));(fail_if_success (refine c_lit false rfl rfl rfl ?_));refine c_split rfl rfl (fun _ => ?_) (fun _ => ?_)))
                rw [i3 (), if_neg e0]
            · have he : escP s (p + 1) o = (p + 1 + 1, o ++ [by8 (escV (at' s (p + 1)))], escE (at' s (p + 1))) := by unfold escP; rw [if_pos hp1, if_neg c117]
              have i3 := fun _ : Unit => he ▸ i3 ()
              clear he ce
              repeat' (first |with_reducible (first |refine t_seq ?_|refine t_region ?_|refine c_nil ?_|refine n_then ?_|refine t_ret ?_|refine t_skip ?_|refine t_exit ?_|refine t_block ?_|refine n_block ?_|refine e_then ?_|refine x_then ?_|refine x_block ?_|refine t_draw ?_)|refine r_val rfl rfl True.intro ?_|refine r_gskip rfl rfl rfl ?_|refine r_gskip2 rfl rfl rfl ?_|refine r_gval rfl rfl rfl rfl True.intro ?_|refine t_true rfl ?_|refine t_false rfl ?_|((first |refine t_cond_d rfl ?_ ?_|refine t_cond_i rfl ?_ ?_|refine t_cond_j rfl ?_ ?_|refine t_cond_s rfl ?_ ?_|refine t_cond_n rfl ?_ ?_|refine t_cond rfl ?_ ?_|refine c_split_d rfl rfl ?_ ?_|refine c_split_i rfl rfl ?_ ?_|refine c_split_j rfl rfl ?_ ?_|refine c_split_s rfl rfl ?_ ?_|refine c_split_n rfl rfl ?_ ?_)<;>intro<;>try (first |(rename_i hz;first |exact tf_ hz|exact ft_ hz)|(exfalso;omega)))|((first |refine r_val rfl rfl ?_ ?_|refine r_gval rfl rfl rfl rfl ?_ ?_|refine r_obj rfl rfl ?_ ?_|refine r_sto rfl ?_ ?_|refine r_gobj rfl rfl rfl rfl ?_ ?_);focus (first |omega|exact le_ rfl|((repeat first |rw [wrap_u8]|rw [IntKind.wrap_i64]|rw [IntKind.wrap_i32]|rw [wrap_u32']|rw [wrap_u64']);(repeat' refine And.intro ?_ ?_)<;>omega)|((repeat' refine And.intro ?_ ?_)<;>first |omega|rfl|exact Nat.le_refl _|exact le_ rfl|exact bytesF_one _)|(simp_all;done)|(simp_all;omega)))|refine e_hit rfl ?_|refine e_miss rfl ?_|with_reducible refine ⟨by kernel_rfl, ?_⟩|refine x_end rfl ?_|((with_reducible refine c_grd ?_);(fail_if_success (refine c_lit true rfl rfl rfl ?_));(fail_if_success (refine c_lit false rfl rfl rfl ?_));refine c_split rfl rfl (fun _ => ?_) (fun _ => ?_)))
              refine T.loop hL (fun x : Nat × Int => [(0, .s s), (1, .i .i64 (p + 1 + 1)), (7, .gs 200 1 o.length (bytesF o)), (9, .i .u8 (at' s (p + 1))), (13, .s escFrom), (14, .s escTo), (15, .i .i64 x.2), (16, .i .i64 x.1)]) (fun _ => [(200, .row 5 1 o.length)])
                (fun x => x.1 ≤ 8 ∧ x.2 = whichF (at' s (p + 1)) x.1) (fun x => 8 - x.1) (0, -1) ⟨by decide, rfl⟩ ⟨⟨rfl, rfl, rfl, rfl, rfl, rfl, rfl, rfl, trivial⟩, ⟨rfl, trivial⟩, rfl, by rw [hX]; intro k hk; cases hk⟩ ?_
              rintro ⟨j, w⟩ ⟨j1, j2⟩
              dsimp only at j1 j2 ⊢
              have l1 : escFrom.length = 8 := rfl
              have l2 : escTo.length = 8 := rfl
              by_cases hj : j < 8
              · have hw : ∀ b : Int, at' escFrom j = at' s (p + 1) → whichF (at' s (p + 1)) (j + 1) = j := fun _ h => if_pos h
                have hw2 : ∀ b : Int, ¬ at' escFrom j = at' s (p + 1) → whichF (at' s (p + 1)) (j + 1) = whichF (at' s (p + 1)) j := fun _ h => if_neg h
                have j2 := fun _ : Unit => j2
                clear done
                repeat' (first |with_reducible (first |refine t_seq ?_|refine t_region ?_|refine c_nil ?_|refine n_then ?_|refine t_ret ?_|refine t_skip ?_|refine t_exit ?_|refine t_block ?_|refine n_block ?_|refine e_then ?_|refine x_then ?_|refine x_block ?_|refine t_draw ?_)|refine r_val rfl rfl True.intro ?_|refine r_gskip rfl rfl rfl ?_|refine r_gskip2 rfl rfl rfl ?_|refine r_gval rfl rfl rfl rfl True.intro ?_|refine t_true rfl ?_|refine t_false rfl ?_|((first |refine t_cond_d rfl ?_ ?_|refine t_cond_i rfl ?_ ?_|refine t_cond_j rfl ?_ ?_|refine t_cond_s rfl ?_ ?_|refine t_cond_n rfl ?_ ?_|refine t_cond rfl ?_ ?_|refine c_split_d rfl rfl ?_ ?_|refine c_split_i rfl rfl ?_ ?_|refine c_split_j rfl rfl ?_ ?_|refine c_split_s rfl rfl ?_ ?_|refine c_split_n rfl rfl ?_ ?_)<;>intro<;>try (first |(rename_i hz;first |exact tf_ hz|exact ft_ hz)|(exfalso;omega)))|((first |refine r_val rfl rfl ?_ ?_|refine r_gval rfl rfl rfl rfl ?_ ?_|refine r_obj rfl rfl ?_ ?_|refine r_sto rfl ?_ ?_|refine r_gobj rfl rfl rfl rfl ?_ ?_);focus (first |omega|exact le_ rfl|((repeat first |rw [wrap_u8]|rw [IntKind.wrap_i64]|rw [IntKind.wrap_i32]|rw [wrap_u32']|rw [wrap_u64']);(repeat' refine And.intro ?_ ?_)<;>omega)|((repeat' refine And.intro ?_ ?_)<;>first |omega|rfl|exact Nat.le_refl _|exact le_ rfl|exact bytesF_one _)|(simp_all;done)|(simp_all;omega)))|refine e_hit rfl ?_|refine e_miss rfl ?_|with_reducible refine ⟨by kernel_rfl, ?_⟩|refine x_end rfl ?_|((with_reducible refine c_grd ?_);(fail_if_success (refine c_lit true rfl rfl rfl ?_));(fail_if_success (refine c_lit false rfl rfl rfl ?_));refine c_split rfl rfl (fun _ => ?_) (fun _ => ?_)))
                · exact ⟨(j + 1, j), ⟨by dsimp only; omega, (hw 0 ‹_›).symm⟩, by dsimp only; omega, ⟨rfl, rfl, rfl, rfl, rfl, rfl, rfl, rfl, trivial⟩, ⟨rfl, trivial⟩, rfl, by rw [hX]; intro k hk; cases hk⟩
                · exact ⟨(j + 1, w), ⟨by dsimp only; omega, (j2 ()).trans (hw2 0 ‹_›).symm⟩, by dsimp only; omega, ⟨rfl, rfl, rfl, rfl, rfl, rfl, rfl, rfl, trivial⟩, ⟨rfl, trivial⟩, rfl, by rw [hX]; intro k hk; cases hk⟩
              · obtain rfl : j = 8 := by omega
                rcases whichF_8 (at' s (p + 1)) with ⟨w1, w2⟩ | ⟨w1, w2, w3, w4⟩
                · rw [w1] at j2
                  subst j2
                  clear done
                  repeat' (first |with_reducible (first |refine t_seq ?_|refine t_region ?_|refine c_nil ?_|refine n_then ?_|refine t_ret ?_|refine t_skip ?_|refine t_exit ?_|refine t_block ?_|refine n_block ?_|refine e_then ?_|refine x_then ?_|refine x_block ?_|refine t_draw ?_)|refine r_val rfl rfl True.intro ?_|refine r_gskip rfl rfl rfl ?_|refine r_gskip2 rfl rfl rfl ?_|refine r_gval rfl rfl rfl rfl True.intro ?_|refine t_true rfl ?_|refine t_false rfl ?_|((first |refine t_cond_d rfl ?_ ?_|refine t_cond_i rfl ?_ ?_|refine t_cond_j rfl ?_ ?_|refine t_cond_s rfl ?_ ?_|refine t_cond_n rfl ?_ ?_|refine t_cond rfl ?_ ?_|refine c_split_d rfl rfl ?_ ?_|refine c_split_i rfl rfl ?_ ?_|refine c_split_j rfl rfl ?_ ?_|refine c_split_s rfl rfl ?_ ?_|refine c_split_n rfl rfl ?_ ?_)<;>intro<;>try (first |(rename_i hz;first |exact tf_ hz|exact ft_ hz)|(exfalso;omega)))|((first |refine r_val rfl rfl ?_ ?_|refine r_gval rfl rfl rfl rfl ?_ ?_|refine r_obj rfl rfl ?_ ?_|refine r_sto rfl ?_ ?_|refine r_gobj rfl rfl rfl rfl ?_ ?_);focus (first |omega|exact le_ rfl|((repeat first |rw [wrap_u8]|rw [IntKind.wrap_i64]|rw [IntKind.wrap_i32]|rw [wrap_u32']|rw [wrap_u64']);(repeat' refine And.intro ?_ ?_)<;>omega)|((repeat' refine And.intro ?_ ?_)<;>first |omega|rfl|exact Nat.le_refl _|exact le_ rfl|exact bytesF_one _)|(simp_all;done)|(simp_all;omega)))|refine e_hit rfl ?_|refine e_miss rfl ?_|with_reducible refine ⟨by kernel_rfl, ?_⟩|refine x_end rfl ?_|((with_reducible refine c_grd ?_);(fail_if_success (refine c_lit true rfl rfl rfl ?_));(fail_if_success (refine c_lit false rfl rfl rfl ?_));refine c_split rfl rfl (fun _ => ?_) (fun _ => ?_)))
                  rw [i3 ()]
                  dsimp only
                  rw [w2]
                  rfl
                · rw [← j2] at w1 w2 w4
                  have w4 := fun _ : Unit => w4
                  clear j2
                  repeat' (first |with_reducible (first |refine t_seq ?_|refine t_region ?_|refine c_nil ?_|refine n_then ?_|refine t_ret ?_|refine t_skip ?_|refine t_exit ?_|refine t_block ?_|refine n_block ?_|refine e_then ?_|refine x_then ?_|refine x_block ?_|refine t_draw ?_)|refine r_val rfl rfl True.intro ?_|refine r_gskip rfl rfl rfl ?_|refine r_gskip2 rfl rfl rfl ?_|refine r_gval rfl rfl rfl rfl True.intro ?_|refine t_true rfl ?_|refine t_false rfl ?_|((first |refine t_cond_d rfl ?_ ?_|refine t_cond_i rfl ?_ ?_|refine t_cond_j rfl ?_ ?_|refine t_cond_s rfl ?_ ?_|refine t_cond_n rfl ?_ ?_|refine t_cond rfl ?_ ?_|refine c_split_d rfl rfl ?_ ?_|refine c_split_i rfl rfl ?_ ?_|refine c_split_j rfl rfl ?_ ?_|refine c_split_s rfl rfl ?_ ?_|refine c_split_n rfl rfl ?_ ?_)<;>intro<;>try (first |(rename_i hz;first |exact tf_ hz|exact ft_ hz)|(exfalso;omega)))|((first |refine r_val rfl rfl ?_ ?_|refine r_gval rfl rfl rfl rfl ?_ ?_|refine r_obj rfl rfl ?_ ?_|refine r_sto rfl ?_ ?_|refine r_gobj rfl rfl rfl rfl ?_ ?_);focus (first |omega|exact le_ rfl|((repeat first |rw [wrap_u8]|rw [IntKind.wrap_i64]|rw [IntKind.wrap_i32]|rw [wrap_u32']|rw [wrap_u64']);(repeat' refine And.intro ?_ ?_)<;>omega)|((repeat' refine And.intro ?_ ?_)<;>first |omega|rfl|exact Nat.le_refl _|exact le_ rfl|exact bytesF_one _)|(simp_all;done)|(simp_all;omega)))|refine e_hit rfl ?_|refine e_miss rfl ?_|with_reducible refine ⟨by kernel_rfl, ?_⟩|refine x_end rfl ?_|((with_reducible refine c_grd ?_);(fail_if_success (refine c_lit true rfl rfl rfl ?_));(fail_if_success (refine c_lit false rfl rfl rfl ?_));refine c_split rfl rfl (fun _ => ?_) (fun _ => ?_)))
                  refine done _ _ (p + 1 + 1) (o ++ [by8 (escV (at' s (p + 1)))]) rfl rfl (gs_byte 200 o (by8 (escV (at' s (p + 1)))) _ (by rw [← w4 (), by8_nat _ (at_range _ _).1 (at_range _ _).2]; rfl)) ⟨by rw [List.length_append]; rfl, trivial⟩ (by omega) (by omega) (by rw [List.length_append]; simp; omega) (fun _ => ?_)
                  rw [i3 ()]
                  dsimp only
                  rw [w3, if_pos rfl]
                  exact unqG_ge s _ _ (p + 1 + 1) _ (by omega) (by omega) (by omega) (by omega)
          · have he : escP s (p + 1) o = (p + 1, o ++ [0], 2) := by unfold escP; rw [if_neg hp1]
            have i3 := fun _ : Unit => he ▸ i3 ()
            clear he done ce
            repeat' (first |with_reducible (first |refine t_seq ?_|refine t_region ?_|refine c_nil ?_|refine n_then ?_|refine t_ret ?_|refine t_skip ?_|refine t_exit ?_|refine t_block ?_|refine n_block ?_|refine e_then ?_|refine x_then ?_|refine x_block ?_|refine t_draw ?_)|refine r_val rfl rfl True.intro ?_|refine r_gskip rfl rfl rfl ?_|refine r_gskip2 rfl rfl rfl ?_|refine r_gval rfl rfl rfl rfl True.intro ?_|refine t_true rfl ?_|refine t_false rfl ?_|((first |refine t_cond_d rfl ?_ ?_|refine t_cond_i rfl ?_ ?_|refine t_cond_j rfl ?_ ?_|refine t_cond_s rfl ?_ ?_|refine t_cond_n rfl ?_ ?_|refine t_cond rfl ?_ ?_|refine c_split_d rfl rfl ?_ ?_|refine c_split_i rfl rfl ?_ ?_|refine c_split_j rfl rfl ?_ ?_|refine c_split_s rfl rfl ?_ ?_|refine c_split_n rfl rfl ?_ ?_)<;>intro<;>try (first |(rename_i hz;first |exact tf_ hz|exact ft_ hz)|(exfalso;omega)))|((first |refine r_val rfl rfl ?_ ?_|refine r_gval rfl rfl rfl rfl ?_ ?_|refine r_obj rfl rfl ?_ ?_|refine r_sto rfl ?_ ?_|refine r_gobj rfl rfl rfl rfl ?_ ?_);focus (first |omega|exact le_ rfl|((repeat first |rw [wrap_u8]|rw [IntKind.wrap_i64]|rw [IntKind.wrap_i32]|rw [wrap_u32']|rw [wrap_u64']);(repeat' refine And.intro ?_ ?_)<;>omega)|((repeat' refine And.intro ?_ ?_)<;>first |omega|rfl|exact Nat.le_refl _|exact le_ rfl|exact bytesF_one _)|(simp_all;done)|(simp_all;omega)))|refine e_hit rfl ?_|refine e_miss rfl ?_|with_reducible refine ⟨by kernel_rfl, ?_⟩|refine x_end rfl ?_|((with_reducible refine c_grd ?_);(fail_if_success (refine c_lit true rfl rfl rfl ?_));(fail_if_success (refine c_lit false rfl rfl rfl ?_));refine c_split rfl rfl (fun _ => ?_) (fun _ => ?_)))
            rw [i3 ()]
            rfl
        · by_cases c32 : at' s p < 32
          · have i3 := fun _ : Unit => (i3 ()).symm.trans (unqG_low hp c34 c92 c32)
            clear done
            repeat' (first |with_reducible (first |refine t_seq ?_|refine t_region ?_|refine c_nil ?_|refine n_then ?_|refine t_ret ?_|refine t_skip ?_|refine t_exit ?_|refine t_block ?_|refine n_block ?_|refine e_then ?_|refine x_then ?_|refine x_block ?_|refine t_draw ?_)|refine r_val rfl rfl True.intro ?_|refine r_gskip rfl rfl rfl ?_|refine r_gskip2 rfl rfl rfl ?_|refine r_gval rfl rfl rfl rfl True.intro ?_|refine t_true rfl ?_|refine t_false rfl ?_|((first |refine t_cond_d rfl ?_ ?_|refine t_cond_i rfl ?_ ?_|refine t_cond_j rfl ?_ ?_|refine t_cond_s rfl ?_ ?_|refine t_cond_n rfl ?_ ?_|refine t_cond rfl ?_ ?_|refine c_split_d rfl rfl ?_ ?_|refine c_split_i rfl rfl ?_ ?_|refine c_split_j rfl rfl ?_ ?_|refine c_split_s rfl rfl ?_ ?_|refine c_split_n rfl rfl ?_ ?_)<;>intro<;>try (first |(rename_i hz;first |exact tf_ hz|exact ft_ hz)|(exfalso;omega)))|((first |refine r_val rfl rfl ?_ ?_|refine r_gval rfl rfl rfl rfl ?_ ?_|refine r_obj rfl rfl ?_ ?_|refine r_sto rfl ?_ ?_|refine r_gobj rfl rfl rfl rfl ?_ ?_);focus (first |omega|exact le_ rfl|((repeat first |rw [wrap_u8]|rw [IntKind.wrap_i64]|rw [IntKind.wrap_i32]|rw [wrap_u32']|rw [wrap_u64']);(repeat' refine And.intro ?_ ?_)<;>omega)|((repeat' refine And.intro ?_ ?_)<;>first |omega|rfl|exact Nat.le_refl _|exact le_ rfl|exact bytesF_one _)|(simp_all;done)|(simp_all;omega)))|refine e_hit rfl ?_|refine e_miss rfl ?_|with_reducible refine ⟨by kernel_rfl, ?_⟩|refine x_end rfl ?_|((with_reducible refine c_grd ?_);(fail_if_success (refine c_lit true rfl rfl rfl ?_));(fail_if_success (refine c_lit false rfl rfl rfl ?_));refine c_split rfl rfl (fun _ => ?_) (fun _ => ?_)))
            rw [i3 ()]
          · have i3 := fun _ : Unit => (i3 ()).symm.trans (unqG_more hp c34 c92 c32)
            repeat' (first |with_reducible (first |refine t_seq ?_|refine t_region ?_|refine c_nil ?_|refine n_then ?_|refine t_ret ?_|refine t_skip ?_|refine t_exit ?_|refine t_block ?_|refine n_block ?_|refine e_then ?_|refine x_then ?_|refine x_block ?_|refine t_draw ?_)|refine r_val rfl rfl True.intro ?_|refine r_gskip rfl rfl rfl ?_|refine r_gskip2 rfl rfl rfl ?_|refine r_gval rfl rfl rfl rfl True.intro ?_|refine t_true rfl ?_|refine t_false rfl ?_|((first |refine t_cond_d rfl ?_ ?_|refine t_cond_i rfl ?_ ?_|refine t_cond_j rfl ?_ ?_|refine t_cond_s rfl ?_ ?_|refine t_cond_n rfl ?_ ?_|refine t_cond rfl ?_ ?_|refine c_split_d rfl rfl ?_ ?_|refine c_split_i rfl rfl ?_ ?_|refine c_split_j rfl rfl ?_ ?_|refine c_split_s rfl rfl ?_ ?_|refine c_split_n rfl rfl ?_ ?_)<;>intro<;>try (first |(rename_i hz;first |exact tf_ hz|exact ft_ hz)|(exfalso;omega)))|((first |refine r_val rfl rfl ?_ ?_|refine r_gval rfl rfl rfl rfl ?_ ?_|refine r_obj rfl rfl ?_ ?_|refine r_sto rfl ?_ ?_|refine r_gobj rfl rfl rfl rfl ?_ ?_);focus (first |omega|exact le_ rfl|((repeat first |rw [wrap_u8]|rw [IntKind.wrap_i64]|rw [IntKind.wrap_i32]|rw [wrap_u32']|rw [wrap_u64']);(repeat' refine And.intro ?_ ?_)<;>omega)|((repeat' refine And.intro ?_ ?_)<;>first |omega|rfl|exact Nat.le_refl _|exact le_ rfl|exact bytesF_one _)|(simp_all;done)|(simp_all;omega)))|refine e_hit rfl ?_|refine e_miss rfl ?_|with_reducible refine ⟨by kernel_rfl, ?_⟩|refine x_end rfl ?_|((with_reducible refine c_grd ?_);(fail_if_success (refine c_lit true rfl rfl rfl ?_));(fail_if_success (refine c_lit false rfl rfl rfl ?_));refine c_split rfl rfl (fun _ => ?_) (fun _ => ?_)))
            refine done _ _ (p + 1) (o ++ [by8 (at' s p)]) rfl rfl (gs_byte 200 o (by8 (at' s p)) _ (by rw [by8_nat _ hr.1 hr.2]; rfl)) ⟨by rw [List.length_append]; rfl, trivial⟩ (by omega) (by omega) (by rw [List.length_append]; simp; omega) (fun _ => (i3 ()).symm)
    · rw [show s.length + 1 - p.toNat = 0 + 1 by omega] at i3
      have i3 := fun _ : Unit => (i3 ()).symm.trans (unqG_end hp)
      clear done
      repeat' (first |with_reducible (first |refine t_seq ?_|refine t_region ?_|refine c_nil ?_|refine n_then ?_|refine t_ret ?_|refine t_skip ?_|refine t_exit ?_|refine t_block ?_|refine n_block ?_|refine e_then ?_|refine x_then ?_|refine x_block ?_|refine t_draw ?_)|refine r_val rfl rfl True.intro ?_|refine r_gskip rfl rfl rfl ?_|refine r_gskip2 rfl rfl rfl ?_|refine r_gval rfl rfl rfl rfl True.intro ?_|refine t_true rfl ?_|refine t_false rfl ?_|((first |refine t_cond_d rfl ?_ ?_|refine t_cond_i rfl ?_ ?_|refine t_cond_j rfl ?_ ?_|refine t_cond_s rfl ?_ ?_|refine t_cond_n rfl ?_ ?_|refine t_cond rfl ?_ ?_|refine c_split_d rfl rfl ?_ ?_|refine c_split_i rfl rfl ?_ ?_|refine c_split_j rfl rfl ?_ ?_|refine c_split_s rfl rfl ?_ ?_|refine c_split_n rfl rfl ?_ ?_)<;>intro<;>try (first |(rename_i hz;first |exact tf_ hz|exact ft_ hz)|(exfalso;omega)))|((first |refine r_val rfl rfl ?_ ?_|refine r_gval rfl rfl rfl rfl ?_ ?_|refine r_obj rfl rfl ?_ ?_|refine r_sto rfl ?_ ?_|refine r_gobj rfl rfl rfl rfl ?_ ?_);focus (first |omega|exact le_ rfl|((repeat first |rw [wrap_u8]|rw [IntKind.wrap_i64]|rw [IntKind.wrap_i32]|rw [wrap_u32']|rw [wrap_u64']);(repeat' refine And.intro ?_ ?_)<;>omega)|((repeat' refine And.intro ?_ ?_)<;>first |omega|rfl|exact Nat.le_refl _|exact le_ rfl|exact bytesF_one _)|(simp_all;done)|(simp_all;omega)))|refine e_hit rfl ?_|refine e_miss rfl ?_|with_reducible refine ⟨by kernel_rfl, ?_⟩|refine x_end rfl ?_|((with_reducible refine c_grd ?_);(fail_if_success (refine c_lit true rfl rfl rfl ?_));(fail_if_success (refine c_lit false rfl rfl rfl ?_));refine c_split rfl rfl (fun _ => ?_) (fun _ => ?_)))
      rw [i3 ()]

end Go.Proofs.YtbegohehjkjnmaaDoor.Flow
