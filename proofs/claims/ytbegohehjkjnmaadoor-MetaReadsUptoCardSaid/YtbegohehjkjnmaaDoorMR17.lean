/- The texts RJ4, one behind the other. -/
import Derived.Test.YtbegohehjkjnmaaDoorMR16
namespace Go.Proofs.YtbegohehjkjnmaaDoor.Flow
open Go

section
variable {X : Ctx} {n : Nat} {all rest : List Oper} {fr : Fr} {ow : Ow} {tr : List (List Nat × List Nat)} {K : Fr → Ow → List (List Nat × List Nat) → Prop}
variable {t : Nat} {op : Op} {ty : TypeId} {pos : String} {af : Array Edge} {cs : List D} {p : Prop} {rd : List Nat}
theorem StepAt.told {P : Program} {o : Oper} {F : Nat → D} {O : Nat → Option Own} {d d' : D} {wr : List (Nat × Own)} (h : StepAt P X n o F O d wr) (hd : ∀ S w r v, Rel S w r d v → Rel S w r d' v) : StepAt P X n o F O d' wr := fun a w K Q hr hK =>
  h a w K Q hr fun v w' hrep => hK v w' (by
    obtain ⟨S, r, h1, h2, h3, h4, h5, h6⟩ := hrep
    refine ⟨S, r, h1, h2, fun u => ?_, h4, h5, h6⟩
    have h7 := h3 u
    generalize o.dst = dst at h7
    cases dst with
    | none => exact h7
    | some t0 =>
      by_cases e : u = t0
      · simp only [updF, e, if_true] at h7 ⊢
        exact hd _ _ _ _ h7
      · simp only [updF, e, if_false] at h7 ⊢
        exact h7)
set_option maxRecDepth 100000 in
theorem r_valA (hs : step B (ev fr) (fun k => look k ow) ⟨some t, op, ty, pos, af, none⟩ = some ⟨.ag cs, p, rd, []⟩) (hn : Nat.blt t n = true) (hp : p) (h : CT Tryd.prog X n all rest ((t, .ag (cs.map D.shut)) :: fr) ow (tr ++ [(rd, [])]) K) :
    CT Tryd.prog X n all (⟨some t, op, ty, pos, af, none⟩ :: rest) fr ow tr K := by
  rw [← tb_eq] at hs
  exact CT.cons (e := ⟨.ag (cs.map D.shut), rd, []⟩) (.plain rfl fun F' O' h1 h2 => (step_local (P := Tryd.prog) (X := X) (n := n) hs hp (show t < n from Nat.le_of_ble_eq_true hn) F' O' h1 h2).told fun S w r v hr => hr.shutA) (fF_cons ..) rfl h
end

theorem catF_tx (l : List (List UInt8)) (v : List UInt8) (gf : Nat → List D) (hg : gf 0 = [.s v]) : catF l.length (txF l) 1 gf = txF (l ++ [v]) := by
  funext j
  unfold catF txF
  by_cases h : j < l.length
  · rw [if_pos h]
    simp [List.getD_eq_getElem?_getD, List.getElem?_append_left h]
  · rw [if_neg h]
    by_cases h2 : j < l.length + 1
    · obtain rfl : j = l.length := by omega
      rw [if_pos h2, Nat.sub_self, hg]
      simp [List.getD_eq_getElem?_getD]
    · rw [if_neg h2]
      simp [List.getD_eq_getElem?_getD, List.getElem?_append_right (show l.length ≤ j by omega)]
      rw [List.getElem?_eq_none (show l.length ≤ j by omega), List.getElem?_eq_none (show [v].length ≤ j - l.length by simp; omega)]
theorem jF_app : ∀ (l : List J) (x : J) (i : Nat), jF (l ++ [x]) i = if i = l.length then jC x else jF l i
  | [], x, 0 => by rw [List.nil_append, jF]; rfl
  | [], x, i + 1 => by
    rw [List.nil_append, jF, jF]
    rfl
  | y :: r, x, 0 => by
    rw [List.cons_append, jF, jF]
    rfl
  | y :: r, x, i + 1 => by
    rw [List.cons_append, jF, jF, jF_app r x i, List.length_cons]
    by_cases h : i = r.length
    · rw [if_pos h, if_pos (by omega)]
    · rw [if_neg h, if_neg (by omega)]
theorem jF_none : ∀ (l : List J) (i : Nat), l.length ≤ i → jF l i = []
  | [], _, _ => by rw [jF]
  | _ :: r, 0, h => by simp at h
  | _ :: r, i + 1, h => by
    rw [jF]
    exact jF_none r i (by simpa using h)
theorem catF_j (l : List J) (x : J) (gf : Nat → List D) (hg : gf 0 = jC x) : catF l.length (jF l) 1 gf = jF (l ++ [x]) := by
  funext j
  rw [jF_app]
  unfold catF
  by_cases h : j < l.length
  · rw [if_pos h, if_neg (by omega)]
  · rw [if_neg h]
    by_cases h2 : j < l.length + 1
    · obtain rfl : j = l.length := by omega
      rw [if_pos h2, Nat.sub_self, hg, if_pos rfl]
    · rw [if_neg h2, if_neg (by omega)]

def idxJ (k : List UInt8) : List (List UInt8) → Int
  | [] => -1
  | x :: r => if x = k then 0 else if idxJ k r = -1 then -1 else idxJ k r + 1
theorem idxJ_hit {k : List UInt8} : ∀ {l : List (List UInt8)} {i : Nat}, (∀ j, j < i → ¬ l.getD j [] = k) → i < l.length → l.getD i [] = k → idxJ k l = i
  | [], _, _, h, _ => by simp at h
  | x :: r, 0, _, _, h => if_pos h
  | x :: r, i + 1, h1, h2, h3 => by
    have h0 : ¬ x = k := h1 0 (by omega)
    have ih := idxJ_hit (k := k) (l := r) (i := i) (fun j hj => by have := h1 (j + 1) (by omega); simpa using this) (by simpa using h2) (by simpa using h3)
    unfold idxJ
    rw [if_neg h0, ih, if_neg (by omega)]
    push_cast
    rfl
theorem idxJ_miss {k : List UInt8} : ∀ {l : List (List UInt8)}, (∀ j, j < l.length → ¬ l.getD j [] = k) → idxJ k l = -1
  | [], _ => rfl
  | x :: r, h1 => by
    have h0 : ¬ x = k := h1 0 (by simp)
    have ih := idxJ_miss (k := k) (l := r) (fun j hj => by have := h1 (j + 1) (by simpa using hj); simpa using this)
    unfold idxJ
    rw [if_neg h0, ih]
    rfl
theorem idxJ_mem {k : List UInt8} : ∀ {l : List (List UInt8)}, (0 ≤ idxJ k l ↔ k ∈ l) ∧ -1 ≤ idxJ k l ∧ idxJ k l < l.length
  | [] => by simp [idxJ]
  | x :: r => by
    have ih := idxJ_mem (k := k) (l := r)
    unfold idxJ
    by_cases h0 : x = k
    · rw [if_pos h0, List.length_cons]
      exact ⟨⟨fun _ => by simp [h0], fun _ => Int.le_refl _⟩, by omega, by omega⟩
    · rw [if_neg h0, List.length_cons]
      have hm : k ∈ x :: r ↔ k ∈ r := by
        rw [List.mem_cons]
        exact ⟨fun h => h.elim (fun e => absurd e.symm h0) id, .inr⟩
      rw [hm, ← ih.1]
      split
      · rename_i h
        exact ⟨⟨fun q => absurd q (by decide), fun q => by omega⟩, by omega, by omega⟩
      · exact ⟨⟨fun q => by omega, fun q => by omega⟩, by omega, by omega⟩

set_option maxRecDepth 100000 in
set_option maxHeartbeats 1000000 in
theorem jindex_ctr (l : List (List UInt8)) (k : List UInt8) (hl : l.length ≤ 4194304) : Ctr Tryd.prog 31 [.sl 1 l.length (txF l), .s k] (.i .i64 (idxJ k l)) := by
  refine r_fun Tryd.func31 rfl Tryd.ntmps31 Tryd.results31 rfl rfl fun X hL hX => ?_
  repeat' (first |with_reducible (first |refine t_seq ?_|refine t_region ?_|refine c_nil ?_|refine n_then ?_|refine t_ret ?_|refine t_skip ?_|refine t_exit ?_|refine t_block ?_|refine n_block ?_|refine e_then ?_|refine x_then ?_|refine x_block ?_|refine t_draw ?_)|refine r_val rfl rfl True.intro ?_|refine r_gskip rfl rfl rfl ?_|refine r_gskip2 rfl rfl rfl ?_|refine r_gval rfl rfl rfl rfl True.intro ?_|refine t_true rfl ?_|refine t_false rfl ?_|((first |refine t_cond_d rfl ?_ ?_|refine t_cond_i rfl ?_ ?_|refine t_cond_j rfl ?_ ?_|refine t_cond_s rfl ?_ ?_|refine t_cond_n rfl ?_ ?_|refine t_cond rfl ?_ ?_|refine c_split_d rfl rfl ?_ ?_|refine c_split_i rfl rfl ?_ ?_|refine c_split_j rfl rfl ?_ ?_|refine c_split_s rfl rfl ?_ ?_|refine c_split_n rfl rfl ?_ ?_)<;>intro<;>try (first |(rename_i hz;first |exact tf_ hz|exact ft_ hz)|(exfalso;omega)))|((first |refine r_val rfl rfl ?_ ?_|refine r_gval rfl rfl rfl rfl ?_ ?_|refine r_obj rfl rfl ?_ ?_|refine r_sto rfl ?_ ?_|refine r_gobj rfl rfl rfl rfl ?_ ?_);focus (first |omega|exact le_ rfl|((repeat first |rw [wrap_u8]|rw [IntKind.wrap_i64]|rw [IntKind.wrap_i32]|rw [wrap_u32']|rw [wrap_u64']);(repeat' refine And.intro ?_ ?_)<;>omega)|((repeat' refine And.intro ?_ ?_)<;>first |omega|rfl|exact Nat.le_refl _|exact le_ rfl|exact bytesF_one _)|(simp_all;done)|(simp_all;omega)))|refine e_hit rfl ?_|refine e_miss rfl ?_|with_reducible refine ⟨by kernel_rfl, ?_⟩|refine x_end rfl ?_|refine n_end rfl ?_|((with_reducible refine c_grd ?_);(fail_if_success (refine c_lit true rfl rfl rfl ?_));(fail_if_success (refine c_lit false rfl rfl rfl ?_));refine c_split rfl rfl (fun _ => ?_) (fun _ => ?_)))
  refine T.loop hL (fun i : Nat => [(0, .sl 1 l.length (txF l)), (1, .s k), (7, .i .i64 l.length), (8, .i .i64 i)]) (fun _ => [])
    (fun i => i ≤ l.length ∧ ∀ j, j < i → ¬ l.getD j [] = k) (fun i => l.length - i) 0 ⟨Nat.zero_le _, fun j h => absurd h (Nat.not_lt_zero _)⟩
    ⟨⟨rfl, rfl, rfl, rfl, trivial⟩, trivial, rfl, by rw [hX]; simp⟩ ?_
  rintro i ⟨h1, h2⟩
  have hnat : (i : Int).toNat = i := Int.toNat_natCast i
  by_cases hil : i < l.length
  · by_cases hq : l.getD i [] = k
    · have hq' : k = l.getD (i : Int).toNat [] := by rw [hnat]; exact hq.symm
      have hq2 : l.getD (i : Int).toNat [] = k := hq'.symm
      rw [idxJ_hit h2 hil hq]
      repeat' (first |with_reducible (first |refine t_seq ?_|refine t_region ?_|refine c_nil ?_|refine n_then ?_|refine t_ret ?_|refine t_skip ?_|refine t_exit ?_|refine t_block ?_|refine n_block ?_|refine e_then ?_|refine x_then ?_|refine x_block ?_|refine t_draw ?_)|refine r_val rfl rfl True.intro ?_|refine r_gskip rfl rfl rfl ?_|refine r_gskip2 rfl rfl rfl ?_|refine r_gval rfl rfl rfl rfl True.intro ?_|refine t_true rfl ?_|refine t_false rfl ?_|((first |refine t_cond_d rfl ?_ ?_|refine t_cond_i rfl ?_ ?_|refine t_cond_j rfl ?_ ?_|refine t_cond_s rfl ?_ ?_|refine t_cond_n rfl ?_ ?_|refine t_cond rfl ?_ ?_|refine c_split_d rfl rfl ?_ ?_|refine c_split_i rfl rfl ?_ ?_|refine c_split_j rfl rfl ?_ ?_|refine c_split_s rfl rfl ?_ ?_|refine c_split_n rfl rfl ?_ ?_)<;>intro<;>try (first |(rename_i hz;first |exact tf_ hz|exact ft_ hz)|(exfalso;omega)))|((first |refine r_val rfl rfl ?_ ?_|refine r_gval rfl rfl rfl rfl ?_ ?_|refine r_obj rfl rfl ?_ ?_|refine r_sto rfl ?_ ?_|refine r_gobj rfl rfl rfl rfl ?_ ?_);focus (first |omega|exact le_ rfl|((repeat first |rw [wrap_u8]|rw [IntKind.wrap_i64]|rw [IntKind.wrap_i32]|rw [wrap_u32']|rw [wrap_u64']);(repeat' refine And.intro ?_ ?_)<;>omega)|((repeat' refine And.intro ?_ ?_)<;>first |omega|rfl|exact Nat.le_refl _|exact le_ rfl|exact bytesF_one _)|(simp_all;done)|(simp_all;omega)))|refine e_hit rfl ?_|refine e_miss rfl ?_|with_reducible refine ⟨by kernel_rfl, ?_⟩|refine x_end rfl ?_|refine n_end rfl ?_|((with_reducible refine c_grd ?_);(fail_if_success (refine c_lit true rfl rfl rfl ?_));(fail_if_success (refine c_lit false rfl rfl rfl ?_));refine c_split rfl rfl (fun _ => ?_) (fun _ => ?_)))
      all_goals first
        | rfl
        | (exfalso; rename_i q; exact q hq')
        | (exfalso; rename_i q; exact q hq2)
    · have hq' : ¬ k = l.getD (i : Int).toNat [] := by rw [hnat]; exact fun e => hq e.symm
      have hq2 : ¬ l.getD (i : Int).toNat [] = k := fun e => hq' e.symm
      repeat' (first |with_reducible (first |refine t_seq ?_|refine t_region ?_|refine c_nil ?_|refine n_then ?_|refine t_ret ?_|refine t_skip ?_|refine t_exit ?_|refine t_block ?_|refine n_block ?_|refine e_then ?_|refine x_then ?_|refine x_block ?_|refine t_draw ?_)|refine r_val rfl rfl True.intro ?_|refine r_gskip rfl rfl rfl ?_|refine r_gskip2 rfl rfl rfl ?_|refine r_gval rfl rfl rfl rfl True.intro ?_|refine t_true rfl ?_|refine t_false rfl ?_|((first |refine t_cond_d rfl ?_ ?_|refine t_cond_i rfl ?_ ?_|refine t_cond_j rfl ?_ ?_|refine t_cond_s rfl ?_ ?_|refine t_cond_n rfl ?_ ?_|refine t_cond rfl ?_ ?_|refine c_split_d rfl rfl ?_ ?_|refine c_split_i rfl rfl ?_ ?_|refine c_split_j rfl rfl ?_ ?_|refine c_split_s rfl rfl ?_ ?_|refine c_split_n rfl rfl ?_ ?_)<;>intro<;>try (first |(rename_i hz;first |exact tf_ hz|exact ft_ hz)|(exfalso;omega)))|((first |refine r_val rfl rfl ?_ ?_|refine r_gval rfl rfl rfl rfl ?_ ?_|refine r_obj rfl rfl ?_ ?_|refine r_sto rfl ?_ ?_|refine r_gobj rfl rfl rfl rfl ?_ ?_);focus (first |omega|exact le_ rfl|((repeat first |rw [wrap_u8]|rw [IntKind.wrap_i64]|rw [IntKind.wrap_i32]|rw [wrap_u32']|rw [wrap_u64']);(repeat' refine And.intro ?_ ?_)<;>omega)|((repeat' refine And.intro ?_ ?_)<;>first |omega|rfl|exact Nat.le_refl _|exact le_ rfl|exact bytesF_one _)|(simp_all;done)|(simp_all;omega)))|refine e_hit rfl ?_|refine e_miss rfl ?_|with_reducible refine ⟨by kernel_rfl, ?_⟩|refine x_end rfl ?_|refine n_end rfl ?_|((with_reducible refine c_grd ?_);(fail_if_success (refine c_lit true rfl rfl rfl ?_));(fail_if_success (refine c_lit false rfl rfl rfl ?_));refine c_split rfl rfl (fun _ => ?_) (fun _ => ?_)))
      all_goals first
        | (exfalso; rename_i q; exact hq' q)
        | (exfalso; rename_i q; exact hq2 q)
        | exact ⟨i + 1, ⟨by omega, fun j hj => by
            by_cases e : j = i
            · subst e; exact hq
            · exact h2 j (by omega)⟩, by omega, ⟨rfl, rfl, rfl, congrArg (D.i .i64) (by omega), trivial⟩, trivial, rfl, by rw [hX]; simp⟩
  · rw [idxJ_miss (fun j hj => h2 j (by omega))]
    repeat' (first |with_reducible (first |refine t_seq ?_|refine t_region ?_|refine c_nil ?_|refine n_then ?_|refine t_ret ?_|refine t_skip ?_|refine t_exit ?_|refine t_block ?_|refine n_block ?_|refine e_then ?_|refine x_then ?_|refine x_block ?_|refine t_draw ?_)|refine r_val rfl rfl True.intro ?_|refine r_gskip rfl rfl rfl ?_|refine r_gskip2 rfl rfl rfl ?_|refine r_gval rfl rfl rfl rfl True.intro ?_|refine t_true rfl ?_|refine t_false rfl ?_|((first |refine t_cond_d rfl ?_ ?_|refine t_cond_i rfl ?_ ?_|refine t_cond_j rfl ?_ ?_|refine t_cond_s rfl ?_ ?_|refine t_cond_n rfl ?_ ?_|refine t_cond rfl ?_ ?_|refine c_split_d rfl rfl ?_ ?_|refine c_split_i rfl rfl ?_ ?_|refine c_split_j rfl rfl ?_ ?_|refine c_split_s rfl rfl ?_ ?_|refine c_split_n rfl rfl ?_ ?_)<;>intro<;>try (first |(rename_i hz;first |exact tf_ hz|exact ft_ hz)|(exfalso;omega)))|((first |refine r_val rfl rfl ?_ ?_|refine r_gval rfl rfl rfl rfl ?_ ?_|refine r_obj rfl rfl ?_ ?_|refine r_sto rfl ?_ ?_|refine r_gobj rfl rfl rfl rfl ?_ ?_);focus (first |omega|exact le_ rfl|((repeat first |rw [wrap_u8]|rw [IntKind.wrap_i64]|rw [IntKind.wrap_i32]|rw [wrap_u32']|rw [wrap_u64']);(repeat' refine And.intro ?_ ?_)<;>omega)|((repeat' refine And.intro ?_ ?_)<;>first |omega|rfl|exact Nat.le_refl _|exact le_ rfl|exact bytesF_one _)|(simp_all;done)|(simp_all;omega)))|refine e_hit rfl ?_|refine e_miss rfl ?_|with_reducible refine ⟨by kernel_rfl, ?_⟩|refine x_end rfl ?_|refine n_end rfl ?_|((with_reducible refine c_grd ?_);(fail_if_success (refine c_lit true rfl rfl rfl ?_));(fail_if_success (refine c_lit false rfl rfl rfl ?_));refine c_split rfl rfl (fun _ => ?_) (fun _ => ?_)))
    all_goals rfl

theorem contains_ctr (l : List (List UInt8)) (k : List UInt8) (hl : l.length ≤ 4194304) : Ctr Tryd.prog 80 [.sl 1 l.length (txF l), .s k] (.b (decide (k ∈ l))) := by
  have c1 := jindex_ctr l k hl
  have e : decide (k ∈ l) = decide (0 ≤ idxJ k l) := by
    rw [decide_eq_decide]
    exact idxJ_mem.1.symm
  rw [e]
  refine r_fun Tryd.func80 rfl Tryd.ntmps80 Tryd.results80 rfl rfl fun X hL hX => ?_
  repeat' (first |refine r_call (f := 31) rfl rfl Tryd.call31 rfl c1 ?_|with_reducible (first |refine t_seq ?_|refine t_region ?_|refine c_nil ?_|refine n_then ?_|refine t_ret ?_|refine t_skip ?_|refine t_exit ?_|refine t_block ?_|refine n_block ?_|refine e_then ?_|refine x_then ?_|refine x_block ?_|refine t_draw ?_)|refine r_val rfl rfl True.intro ?_|refine r_gskip rfl rfl rfl ?_|refine r_gskip2 rfl rfl rfl ?_|refine r_gval rfl rfl rfl rfl True.intro ?_|refine t_true rfl ?_|refine t_false rfl ?_|((first |refine t_cond_d rfl ?_ ?_|refine t_cond_i rfl ?_ ?_|refine t_cond_j rfl ?_ ?_|refine t_cond_s rfl ?_ ?_|refine t_cond_n rfl ?_ ?_|refine t_cond rfl ?_ ?_|refine c_split_d rfl rfl ?_ ?_|refine c_split_i rfl rfl ?_ ?_|refine c_split_j rfl rfl ?_ ?_|refine c_split_s rfl rfl ?_ ?_|refine c_split_n rfl rfl ?_ ?_)<;>intro<;>try (first |(rename_i hz;first |exact tf_ hz|exact ft_ hz)|(exfalso;omega)))|((first |refine r_val rfl rfl ?_ ?_|refine r_gval rfl rfl rfl rfl ?_ ?_|refine r_obj rfl rfl ?_ ?_|refine r_sto rfl ?_ ?_|refine r_gobj rfl rfl rfl rfl ?_ ?_);focus (first |omega|exact le_ rfl|((repeat first |rw [wrap_u8]|rw [IntKind.wrap_i64]|rw [IntKind.wrap_i32]|rw [wrap_u32']|rw [wrap_u64']);(repeat' refine And.intro ?_ ?_)<;>omega)|((repeat' refine And.intro ?_ ?_)<;>first |omega|rfl|exact Nat.le_refl _|exact le_ rfl|exact bytesF_one _)|(simp_all;done)|(simp_all;omega)))|refine e_hit rfl ?_|refine e_miss rfl ?_|with_reducible refine ⟨by kernel_rfl, ?_⟩|refine x_end rfl ?_|refine n_end rfl ?_|((with_reducible refine c_grd ?_);(fail_if_success (refine c_lit true rfl rfl rfl ?_));(fail_if_success (refine c_lit false rfl rfl rfl ?_));refine c_split rfl rfl (fun _ => ?_) (fun _ => ?_)))
  all_goals rfl

def keyD : Sum (List UInt8 × Nat) (Nat × Int) → Sum (D × Nat) (Nat × Int)
  | .inl (k, n) => .inl (.s k, n)
  | .inr e => .inr e
set_option maxRecDepth 100000 in
set_option maxHeartbeats 2000000 in
theorem key_jctr (s : List UInt8) (i : Nat) (l : List J) (ks : List (List UInt8)) (hs : s.length ≤ 1048576) (hi : i ≤ s.length) (hk : ks.length ≤ 4194304) :
    RdE 62 [.pv 13 0, .ag [.i .i64 5, .b false, .b false, .s [], .i .i64 0, .s [], .sl 8 l.length (jF l), .sl 1 ks.length (txF ks)]] s i (keyD (jkey s i ks)) := by
  refine r_methR Tryd.func62 rfl Tryd.ntmps62 Tryd.results62 rfl (fun d n h => by
    unfold keyD at h
    split at h <;> cases h
    rfl) fun X hL hX => ?_
  have c1 := jpeek_ctr s i hs hi
  have p1 := @jpeek_ok s i
  unfold jkey
  cases h1 : jpeek s i with
  | inr e =>
    obtain ⟨p, e⟩ := e
    rw [h1] at c1
    repeat' (first |(refine t_pan (id := 1) 1 ?_;dsimp only [splitOp])|refine p_lend1 13 rfl Tryd.call39 rfl rfl rfl rfl c1 ?_|with_reducible (first |refine t_seq ?_|refine t_region ?_|refine c_nil ?_|refine n_then ?_|refine t_ret ?_|refine t_skip ?_|refine t_exit ?_|refine t_block ?_|refine n_block ?_|refine e_then ?_|refine x_then ?_|refine x_block ?_|refine t_draw ?_)|refine r_val rfl rfl True.intro ?_|refine r_gskip rfl rfl rfl ?_|refine r_gskip2 rfl rfl rfl ?_|refine r_gval rfl rfl rfl rfl True.intro ?_|refine t_true rfl ?_|refine t_false rfl ?_|((first |refine t_cond_d rfl ?_ ?_|refine t_cond_i rfl ?_ ?_|refine t_cond_j rfl ?_ ?_|refine t_cond_s rfl ?_ ?_|refine t_cond_n rfl ?_ ?_|refine t_cond rfl ?_ ?_|refine c_split_d rfl rfl ?_ ?_|refine c_split_i rfl rfl ?_ ?_|refine c_split_j rfl rfl ?_ ?_|refine c_split_s rfl rfl ?_ ?_|refine c_split_n rfl rfl ?_ ?_)<;>intro<;>try (first |(rename_i hz;first |exact tf_ hz|exact ft_ hz)|(exfalso;omega)))|((first |refine r_val rfl rfl ?_ ?_|refine r_gval rfl rfl rfl rfl ?_ ?_|refine r_obj rfl rfl ?_ ?_|refine r_sto rfl ?_ ?_|refine r_gobj rfl rfl rfl rfl ?_ ?_);focus (first |omega|exact le_ rfl|((repeat first |rw [wrap_u8]|rw [IntKind.wrap_i64]|rw [IntKind.wrap_i32]|rw [wrap_u32']|rw [wrap_u64']);(repeat' refine And.intro ?_ ?_)<;>omega)|((repeat' refine And.intro ?_ ?_)<;>first |omega|rfl|exact Nat.le_refl _|exact le_ rfl|exact bytesF_one _)|(simp_all;done)|(simp_all;omega)))|refine e_hit rfl ?_|refine e_miss rfl ?_|with_reducible refine ⟨by kernel_rfl, ?_⟩|refine p_then ?_|refine p_block ?_|refine p_endR ⟨_, _, rfl, rfl, _, rfl⟩|((with_reducible refine c_grd ?_);(fail_if_success (refine c_lit true rfl rfl rfl ?_));(fail_if_success (refine c_lit false rfl rfl rfl ?_));refine c_split rfl rfl (fun _ => ?_) (fun _ => ?_)))
  | inl j =>
    rw [h1] at c1
    have p1 := p1 hi h1
    dsimp only
    by_cases hq : at' s j = 34
    · rw [if_neg (fun q => q hq)]
      have c2 := text_jctr s j hs (by omega)
      cases h2 : jtext s j with
      | inr e =>
        obtain ⟨p, e⟩ := e
        rw [h2] at c2
        repeat' (first |(refine t_pan (id := 4) 1 ?_;dsimp only [splitOp])|refine r_lend1 (f := 39) 13 rfl rfl Tryd.call39 rfl rfl rfl rfl rfl c1 ?_|refine p_lend1 13 rfl Tryd.call41 rfl rfl rfl rfl c2 ?_|with_reducible (first |refine t_seq ?_|refine t_region ?_|refine c_nil ?_|refine n_then ?_|refine t_ret ?_|refine t_skip ?_|refine t_exit ?_|refine t_block ?_|refine n_block ?_|refine e_then ?_|refine x_then ?_|refine x_block ?_|refine t_draw ?_)|refine r_val rfl rfl True.intro ?_|refine r_gskip rfl rfl rfl ?_|refine r_gskip2 rfl rfl rfl ?_|refine r_gval rfl rfl rfl rfl True.intro ?_|refine t_true rfl ?_|refine t_false rfl ?_|((first |refine t_cond_d rfl ?_ ?_|refine t_cond_i rfl ?_ ?_|refine t_cond_j rfl ?_ ?_|refine t_cond_s rfl ?_ ?_|refine t_cond_n rfl ?_ ?_|refine t_cond rfl ?_ ?_|refine c_split_d rfl rfl ?_ ?_|refine c_split_i rfl rfl ?_ ?_|refine c_split_j rfl rfl ?_ ?_|refine c_split_s rfl rfl ?_ ?_|refine c_split_n rfl rfl ?_ ?_)<;>intro<;>try (first |(rename_i hz;first |exact tf_ hz|exact ft_ hz)|(exfalso;omega)))|((first |refine r_val rfl rfl ?_ ?_|refine r_gval rfl rfl rfl rfl ?_ ?_|refine r_obj rfl rfl ?_ ?_|refine r_sto rfl ?_ ?_|refine r_gobj rfl rfl rfl rfl ?_ ?_);focus (first |omega|exact le_ rfl|((repeat first |rw [wrap_u8]|rw [IntKind.wrap_i64]|rw [IntKind.wrap_i32]|rw [wrap_u32']|rw [wrap_u64']);(repeat' refine And.intro ?_ ?_)<;>omega)|((repeat' refine And.intro ?_ ?_)<;>first |omega|rfl|exact Nat.le_refl _|exact le_ rfl|exact bytesF_one _)|(simp_all;done)|(simp_all;omega)))|refine e_hit rfl ?_|refine e_miss rfl ?_|with_reducible refine ⟨by kernel_rfl, ?_⟩|refine p_then ?_|refine p_block ?_|refine p_endR ⟨_, _, rfl, rfl, _, rfl⟩|((with_reducible refine c_grd ?_);(fail_if_success (refine c_lit true rfl rfl rfl ?_));(fail_if_success (refine c_lit false rfl rfl rfl ?_));refine c_split rfl rfl (fun _ => ?_) (fun _ => ?_)))
      | inl r =>
        obtain ⟨k, n⟩ := r
        rw [h2] at c2
        have p2 := jtext_ok h2
        dsimp only
        have c3 := contains_ctr ks k hk
        have c4 := jpeek_ctr s n hs p2.2
        by_cases hm : k ∈ ks
        · rw [if_pos hm]
          rw [decide_eq_true hm] at c3
          have c5 := jfail_ctr j 3
          repeat' (first |(refine t_pan (id := 6) 1 ?_;dsimp only [splitOp])|refine r_lend1 (f := 39) 13 rfl rfl Tryd.call39 rfl rfl rfl rfl rfl c1 ?_|refine r_lend1 (f := 41) 13 rfl rfl Tryd.call41 rfl rfl rfl rfl rfl c2 ?_|refine r_call (f := 80) rfl rfl Tryd.call80 rfl c3 ?_|refine p_call rfl Tryd.call27 rfl c5 ?_|with_reducible (first |refine t_seq ?_|refine t_region ?_|refine c_nil ?_|refine n_then ?_|refine t_ret ?_|refine t_skip ?_|refine t_exit ?_|refine t_block ?_|refine n_block ?_|refine e_then ?_|refine x_then ?_|refine x_block ?_|refine t_draw ?_)|refine r_val rfl rfl True.intro ?_|refine r_gskip rfl rfl rfl ?_|refine r_gskip2 rfl rfl rfl ?_|refine r_gval rfl rfl rfl rfl True.intro ?_|refine t_true rfl ?_|refine t_false rfl ?_|((first |refine t_cond_d rfl ?_ ?_|refine t_cond_i rfl ?_ ?_|refine t_cond_j rfl ?_ ?_|refine t_cond_s rfl ?_ ?_|refine t_cond_n rfl ?_ ?_|refine t_cond rfl ?_ ?_|refine c_split_d rfl rfl ?_ ?_|refine c_split_i rfl rfl ?_ ?_|refine c_split_j rfl rfl ?_ ?_|refine c_split_s rfl rfl ?_ ?_|refine c_split_n rfl rfl ?_ ?_)<;>intro<;>try (first |(rename_i hz;first |exact tf_ hz|exact ft_ hz)|(exfalso;omega)))|((first |refine r_val rfl rfl ?_ ?_|refine r_gval rfl rfl rfl rfl ?_ ?_|refine r_obj rfl rfl ?_ ?_|refine r_sto rfl ?_ ?_|refine r_gobj rfl rfl rfl rfl ?_ ?_);focus (first |omega|exact le_ rfl|((repeat first |rw [wrap_u8]|rw [IntKind.wrap_i64]|rw [IntKind.wrap_i32]|rw [wrap_u32']|rw [wrap_u64']);(repeat' refine And.intro ?_ ?_)<;>omega)|((repeat' refine And.intro ?_ ?_)<;>first |omega|rfl|exact Nat.le_refl _|exact le_ rfl|exact bytesF_one _)|(simp_all;done)|(simp_all;omega)))|refine e_hit rfl ?_|refine e_miss rfl ?_|with_reducible refine ⟨by kernel_rfl, ?_⟩|refine p_then ?_|refine p_block ?_|refine p_endR ⟨_, _, rfl, rfl, _, rfl⟩|((with_reducible refine c_grd ?_);(fail_if_success (refine c_lit true rfl rfl rfl ?_));(fail_if_success (refine c_lit false rfl rfl rfl ?_));refine c_split rfl rfl (fun _ => ?_) (fun _ => ?_)))
        · rw [if_neg hm]
          rw [decide_eq_false hm] at c3
          cases h3 : jpeek s n with
          | inr e =>
            obtain ⟨p, e⟩ := e
            rw [h3] at c4
            repeat' (first |(refine t_pan (id := 7) 1 ?_;dsimp only [splitOp])|refine r_lend1 (f := 39) 13 rfl rfl Tryd.call39 rfl rfl rfl rfl rfl c1 ?_|refine r_lend1 (f := 41) 13 rfl rfl Tryd.call41 rfl rfl rfl rfl rfl c2 ?_|refine r_call (f := 80) rfl rfl Tryd.call80 rfl c3 ?_|refine p_lend1 13 rfl Tryd.call39 rfl rfl rfl rfl c4 ?_|with_reducible (first |refine t_seq ?_|refine t_region ?_|refine c_nil ?_|refine n_then ?_|refine t_ret ?_|refine t_skip ?_|refine t_exit ?_|refine t_block ?_|refine n_block ?_|refine e_then ?_|refine x_then ?_|refine x_block ?_|refine t_draw ?_)|refine r_val rfl rfl True.intro ?_|refine r_gskip rfl rfl rfl ?_|refine r_gskip2 rfl rfl rfl ?_|refine r_gval rfl rfl rfl rfl True.intro ?_|refine t_true rfl ?_|refine t_false rfl ?_|((first |refine t_cond_d rfl ?_ ?_|refine t_cond_i rfl ?_ ?_|refine t_cond_j rfl ?_ ?_|refine t_cond_s rfl ?_ ?_|refine t_cond_n rfl ?_ ?_|refine t_cond rfl ?_ ?_|refine c_split_d rfl rfl ?_ ?_|refine c_split_i rfl rfl ?_ ?_|refine c_split_j rfl rfl ?_ ?_|refine c_split_s rfl rfl ?_ ?_|refine c_split_n rfl rfl ?_ ?_)<;>intro<;>try (first |(rename_i hz;first |exact tf_ hz|exact ft_ hz)|(exfalso;omega)))|((first |refine r_val rfl rfl ?_ ?_|refine r_gval rfl rfl rfl rfl ?_ ?_|refine r_obj rfl rfl ?_ ?_|refine r_sto rfl ?_ ?_|refine r_gobj rfl rfl rfl rfl ?_ ?_);focus (first |omega|exact le_ rfl|((repeat first |rw [wrap_u8]|rw [IntKind.wrap_i64]|rw [IntKind.wrap_i32]|rw [wrap_u32']|rw [wrap_u64']);(repeat' refine And.intro ?_ ?_)<;>omega)|((repeat' refine And.intro ?_ ?_)<;>first |omega|rfl|exact Nat.le_refl _|exact le_ rfl|exact bytesF_one _)|(simp_all;done)|(simp_all;omega)))|refine e_hit rfl ?_|refine e_miss rfl ?_|with_reducible refine ⟨by kernel_rfl, ?_⟩|refine p_then ?_|refine p_block ?_|refine p_endR ⟨_, _, rfl, rfl, _, rfl⟩|((with_reducible refine c_grd ?_);(fail_if_success (refine c_lit true rfl rfl rfl ?_));(fail_if_success (refine c_lit false rfl rfl rfl ?_));refine c_split rfl rfl (fun _ => ?_) (fun _ => ?_)))
          | inl m =>
            rw [h3] at c4
            have p3 := jpeek_ok p2.2 h3
            dsimp only
            by_cases h58 : at' s m = 58
            · rw [if_neg (fun q => q h58)]
              repeat' (first |refine r_lend1 (f := 39) 13 rfl rfl Tryd.call39 rfl rfl rfl rfl rfl c1 ?_|refine r_lend1 (f := 39) 13 rfl rfl Tryd.call39 rfl rfl rfl rfl rfl c4 ?_|refine r_lend1 (f := 41) 13 rfl rfl Tryd.call41 rfl rfl rfl rfl rfl c2 ?_|refine r_call (f := 80) rfl rfl Tryd.call80 rfl c3 ?_|with_reducible (first |refine t_seq ?_|refine t_region ?_|refine c_nil ?_|refine n_then ?_|refine t_ret ?_|refine t_skip ?_|refine t_exit ?_|refine t_block ?_|refine n_block ?_|refine e_then ?_|refine x_then ?_|refine x_block ?_|refine t_draw ?_)|refine r_val rfl rfl True.intro ?_|refine r_gskip rfl rfl rfl ?_|refine r_gskip2 rfl rfl rfl ?_|refine r_gval rfl rfl rfl rfl True.intro ?_|refine t_true rfl ?_|refine t_false rfl ?_|((first |refine t_cond_d rfl ?_ ?_|refine t_cond_i rfl ?_ ?_|refine t_cond_j rfl ?_ ?_|refine t_cond_s rfl ?_ ?_|refine t_cond_n rfl ?_ ?_|refine t_cond rfl ?_ ?_|refine c_split_d rfl rfl ?_ ?_|refine c_split_i rfl rfl ?_ ?_|refine c_split_j rfl rfl ?_ ?_|refine c_split_s rfl rfl ?_ ?_|refine c_split_n rfl rfl ?_ ?_)<;>intro<;>try (first |(rename_i hz;first |exact tf_ hz|exact ft_ hz)|(exfalso;omega)))|((first |refine r_val rfl rfl ?_ ?_|refine r_gval rfl rfl rfl rfl ?_ ?_|refine r_obj rfl rfl ?_ ?_|refine r_sto rfl ?_ ?_|refine r_gobj rfl rfl rfl rfl ?_ ?_);focus (first |omega|exact le_ rfl|((repeat first |rw [wrap_u8]|rw [IntKind.wrap_i64]|rw [IntKind.wrap_i32]|rw [wrap_u32']|rw [wrap_u64']);(repeat' refine And.intro ?_ ?_)<;>omega)|((repeat' refine And.intro ?_ ?_)<;>first |omega|rfl|exact Nat.le_refl _|exact le_ rfl|exact bytesF_one _)|(simp_all;done)|(simp_all;omega)))|refine e_hit rfl ?_|refine e_miss rfl ?_|with_reducible refine ⟨by kernel_rfl, ?_⟩|refine x_endR rfl ⟨_, _, rfl, .refl _, ?_⟩|refine n_endR rfl ⟨_, _, rfl, .refl _, ?_⟩|((with_reducible refine c_grd ?_);(fail_if_success (refine c_lit true rfl rfl rfl ?_));(fail_if_success (refine c_lit false rfl rfl rfl ?_));refine c_split rfl rfl (fun _ => ?_) (fun _ => ?_)))
              all_goals exact congrArg (fun x => some (Own.var [.s s, .i .i64 x])) (by omega)
            · rw [if_pos h58]
              have c5 := jfail_ctr m 3
              repeat' (first |(refine t_pan (id := 8) 4 ?_;dsimp only [splitOp])|refine r_lend1 (f := 39) 13 rfl rfl Tryd.call39 rfl rfl rfl rfl rfl c1 ?_|refine r_lend1 (f := 39) 13 rfl rfl Tryd.call39 rfl rfl rfl rfl rfl c4 ?_|refine r_lend1 (f := 41) 13 rfl rfl Tryd.call41 rfl rfl rfl rfl rfl c2 ?_|refine r_call (f := 80) rfl rfl Tryd.call80 rfl c3 ?_|refine p_call rfl Tryd.call27 rfl c5 ?_|with_reducible (first |refine t_seq ?_|refine t_region ?_|refine c_nil ?_|refine n_then ?_|refine t_ret ?_|refine t_skip ?_|refine t_exit ?_|refine t_block ?_|refine n_block ?_|refine e_then ?_|refine x_then ?_|refine x_block ?_|refine t_draw ?_)|refine r_val rfl rfl True.intro ?_|refine r_gskip rfl rfl rfl ?_|refine r_gskip2 rfl rfl rfl ?_|refine r_gval rfl rfl rfl rfl True.intro ?_|refine t_true rfl ?_|refine t_false rfl ?_|((first |refine t_cond_d rfl ?_ ?_|refine t_cond_i rfl ?_ ?_|refine t_cond_j rfl ?_ ?_|refine t_cond_s rfl ?_ ?_|refine t_cond_n rfl ?_ ?_|refine t_cond rfl ?_ ?_|refine c_split_d rfl rfl ?_ ?_|refine c_split_i rfl rfl ?_ ?_|refine c_split_j rfl rfl ?_ ?_|refine c_split_s rfl rfl ?_ ?_|refine c_split_n rfl rfl ?_ ?_)<;>intro<;>try (first |(rename_i hz;first |exact tf_ hz|exact ft_ hz)|(exfalso;omega)))|((first |refine r_val rfl rfl ?_ ?_|refine r_gval rfl rfl rfl rfl ?_ ?_|refine r_obj rfl rfl ?_ ?_|refine r_sto rfl ?_ ?_|refine r_gobj rfl rfl rfl rfl ?_ ?_);focus (first |omega|exact le_ rfl|((repeat first |rw [wrap_u8]|rw [IntKind.wrap_i64]|rw [IntKind.wrap_i32]|rw [wrap_u32']|rw [wrap_u64']);(repeat' refine And.intro ?_ ?_)<;>omega)|((repeat' refine And.intro ?_ ?_)<;>first |omega|rfl|exact Nat.le_refl _|exact le_ rfl|exact bytesF_one _)|(simp_all;done)|(simp_all;omega)))|refine e_hit rfl ?_|refine e_miss rfl ?_|with_reducible refine ⟨by kernel_rfl, ?_⟩|refine p_then ?_|refine p_block ?_|refine p_endR ⟨_, _, rfl, rfl, _, rfl⟩|((with_reducible refine c_grd ?_);(fail_if_success (refine c_lit true rfl rfl rfl ?_));(fail_if_success (refine c_lit false rfl rfl rfl ?_));refine c_split rfl rfl (fun _ => ?_) (fun _ => ?_)))
    · rw [if_pos hq]
      have c5 := jfail_ctr j 3
      repeat' (first |(refine t_pan (id := 2) 4 ?_;dsimp only [splitOp])|refine r_lend1 (f := 39) 13 rfl rfl Tryd.call39 rfl rfl rfl rfl rfl c1 ?_|refine p_call rfl Tryd.call27 rfl c5 ?_|with_reducible (first |refine t_seq ?_|refine t_region ?_|refine c_nil ?_|refine n_then ?_|refine t_ret ?_|refine t_skip ?_|refine t_exit ?_|refine t_block ?_|refine n_block ?_|refine e_then ?_|refine x_then ?_|refine x_block ?_|refine t_draw ?_)|refine r_val rfl rfl True.intro ?_|refine r_gskip rfl rfl rfl ?_|refine r_gskip2 rfl rfl rfl ?_|refine r_gval rfl rfl rfl rfl True.intro ?_|refine t_true rfl ?_|refine t_false rfl ?_|((first |refine t_cond_d rfl ?_ ?_|refine t_cond_i rfl ?_ ?_|refine t_cond_j rfl ?_ ?_|refine t_cond_s rfl ?_ ?_|refine t_cond_n rfl ?_ ?_|refine t_cond rfl ?_ ?_|refine c_split_d rfl rfl ?_ ?_|refine c_split_i rfl rfl ?_ ?_|refine c_split_j rfl rfl ?_ ?_|refine c_split_s rfl rfl ?_ ?_|refine c_split_n rfl rfl ?_ ?_)<;>intro<;>try (first |(rename_i hz;first |exact tf_ hz|exact ft_ hz)|(exfalso;omega)))|((first |refine r_val rfl rfl ?_ ?_|refine r_gval rfl rfl rfl rfl ?_ ?_|refine r_obj rfl rfl ?_ ?_|refine r_sto rfl ?_ ?_|refine r_gobj rfl rfl rfl rfl ?_ ?_);focus (first |omega|exact le_ rfl|((repeat first |rw [wrap_u8]|rw [IntKind.wrap_i64]|rw [IntKind.wrap_i32]|rw [wrap_u32']|rw [wrap_u64']);(repeat' refine And.intro ?_ ?_)<;>omega)|((repeat' refine And.intro ?_ ?_)<;>first |omega|rfl|exact Nat.le_refl _|exact le_ rfl|exact bytesF_one _)|(simp_all;done)|(simp_all;omega)))|refine e_hit rfl ?_|refine e_miss rfl ?_|with_reducible refine ⟨by kernel_rfl, ?_⟩|refine p_then ?_|refine p_block ?_|refine p_endR ⟨_, _, rfl, rfl, _, rfl⟩|((with_reducible refine c_grd ?_);(fail_if_success (refine c_lit true rfl rfl rfl ?_));(fail_if_success (refine c_lit false rfl rfl rfl ?_));refine c_split rfl rfl (fun _ => ?_) (fun _ => ?_)))

end Go.Proofs.YtbegohehjkjnmaaDoor.Flow
