/- The texts RJ3, one behind the other. -/
import Derived.Test.YtbegohehjkjnmaaDoorMR12
import Derived.Test.YtbegohehjkjnmaaDoorMR13
import Derived.Test.YtbegohehjkjnmaaDoorMR14
import Derived.Test.YtbegohehjkjnmaaDoorMR15
namespace Go.Proofs.YtbegohehjkjnmaaDoor.Flow
open Go

def pvS (p : Nat) (e : Int) : Value := .iface 55 (.agg #[.int .i64 p, .int .i64 e])
abbrev rdr (s : List UInt8) (i : Nat) : Ow := [(13, .var [.s s, .i .i64 i])]
def RdE (f : FuncId) (args : List D) (s : List UInt8) (i : Nat) (o : Sum (D × Nat) (Nat × Int)) : Prop :=
  match o with
  | .inl (d, n) => CtrO Tryd.prog f args (rdr s i) d (rdr s n)
  | .inr (p, e) => CtrP Tryd.prog f args (rdr s i) (pvS p e) [(13, .gone)]

section
variable {fr : Fr} {ow : Ow} {f : FuncId} {args : List D} {pv : Value}
def EndsR (rs : List ResultVar) (s : List UInt8) (o : Sum (D × Nat) (Nat × Int)) (e : Exit) (fr : Fr) (ow : Ow) : Prop :=
  match o with
  | .inl (d, n) => EndsM rs d (rdr s n) e fr ow
  | .inr (p, er) => EndsP (pvS p er) [(13, .gone)] e fr ow
theorem x_endR {rs : List ResultVar} {d2 : D} {s : List UInt8} {o : Sum (D × Nat) (Nat × Int)} (h : resU B fr ow rs = some d2) (he : Stay (∃ d n, o = .inl (d, n) ∧ Weak d2 d ∧ look 13 ow = some (.var [.s s, .i .i64 (n : Nat)]))) : Rtn (EndsR rs s o) fr ow := by
  unfold Rtn
  obtain ⟨d, n, rfl, hw, hl⟩ := he.out
  exact ⟨d2, h, hw, hl, trivial⟩
theorem n_endR {rs : List ResultVar} {d2 : D} {s : List UInt8} {o : Sum (D × Nat) (Nat × Int)} (h : resU B fr ow rs = some d2) (he : Stay (∃ d n, o = .inl (d, n) ∧ Weak d2 d ∧ look 13 ow = some (.var [.s s, .i .i64 (n : Nat)]))) : Nrm (EndsR rs s o) fr ow := by
  unfold Nrm
  obtain ⟨d, n, rfl, hw, hl⟩ := he.out
  exact ⟨d2, h, hw, hl, trivial⟩
theorem p_endR {rs : List ResultVar} {s : List UInt8} {o : Sum (D × Nat) (Nat × Int)} (he : Stay (∃ p e, o = .inr (p, e) ∧ pv = pvS p e ∧ ∃ o2, look 13 ow = some o2)) : Pnc pv (EndsR rs s o) fr ow := by
  unfold Pnc
  obtain ⟨p, e, rfl, rfl, hl⟩ := he.out
  exact ⟨rfl, hl, trivial⟩
theorem r_methR {fn : Func} {c : Code} {N : Nat} {rs : List ResultVar} {s : List UInt8} {i : Nat} {o : Sum (D × Nat) (Nat × Int)} (hf : Tryd.prog.funcs[f]? = some fn) (hb : fn.body = some c) (hN : fn.ntmps = N) (hrs : fn.results = ⟨rs⟩) (hlen : Nat.ble args.length N = true)
    (hd : ∀ d n, o = .inl (d, n) → d.okIn [13] = true) (h : ∀ X : Ctx, Lent X → X.ids = [13] → T Tryd.prog X N c (slots 0 args) (rdr s i) (EndsR rs s o)) : RdE f args s i o := by
  match o, hd, h with
  | .inl (d, n), hd, h => exact r_methM hf hb hN hrs hlen rfl rfl (hd d n rfl) rfl h
  | .inr (p, e), hd, h => exact r_methP hf hb hN hlen rfl rfl rfl h
end

theorem jfail_ctr (p : Nat) (e : Int) : CtrP Tryd.prog 27 [.i .i64 p, .i .i64 e] [] (pvS p e) [] := by
  refine r_methP Tryd.func27 rfl Tryd.ntmps27 rfl rfl rfl rfl fun X hL hX => ?_
  repeat' (first |(refine t_pan (id := 0) 4 ?_;dsimp only [splitOp])|refine r_iface2 Tryd.underlying55 rfl rfl ?_|with_reducible (first |refine t_seq ?_|refine t_region ?_|refine c_nil ?_|refine n_then ?_|refine t_ret ?_|refine t_skip ?_|refine t_exit ?_|refine t_block ?_|refine n_block ?_|refine e_then ?_|refine x_then ?_|refine x_block ?_|refine t_draw ?_)|refine r_val rfl rfl True.intro ?_|refine r_gskip rfl rfl rfl ?_|refine r_gskip2 rfl rfl rfl ?_|refine r_gval rfl rfl rfl rfl True.intro ?_|refine t_true rfl ?_|refine t_false rfl ?_|((first |refine t_cond_d rfl ?_ ?_|refine t_cond_i rfl ?_ ?_|refine t_cond_j rfl ?_ ?_|refine t_cond_s rfl ?_ ?_|refine t_cond_n rfl ?_ ?_|refine t_cond rfl ?_ ?_|refine c_split_d rfl rfl ?_ ?_|refine c_split_i rfl rfl ?_ ?_|refine c_split_j rfl rfl ?_ ?_|refine c_split_s rfl rfl ?_ ?_|refine c_split_n rfl rfl ?_ ?_)<;>intro<;>try (first |(rename_i hz;first |exact tf_ hz|exact ft_ hz)|(exfalso;omega)))|((first |refine r_val rfl rfl ?_ ?_|refine r_gval rfl rfl rfl rfl ?_ ?_|refine r_obj rfl rfl ?_ ?_|refine r_sto rfl ?_ ?_|refine r_gobj rfl rfl rfl rfl ?_ ?_);focus (first |omega|exact le_ rfl|((repeat first |rw [wrap_u8]|rw [IntKind.wrap_i64]|rw [IntKind.wrap_i32]|rw [wrap_u32']|rw [wrap_u64']);(repeat' refine And.intro ?_ ?_)<;>omega)|((repeat' refine And.intro ?_ ?_)<;>first |omega|rfl|exact Nat.le_refl _|exact le_ rfl|exact bytesF_one _)|(simp_all;done)|(simp_all;omega)))|refine e_hit rfl ?_|refine e_miss rfl ?_|with_reducible refine ⟨by kernel_rfl, ?_⟩|refine p_panic rfl ?_|refine p_then ?_|refine p_block ?_|refine p_endP rfl trivial|((with_reducible refine c_grd ?_);(fail_if_success (refine c_lit true rfl rfl rfl ?_));(fail_if_success (refine c_lit false rfl rfl rfl ?_));refine c_split rfl rfl (fun _ => ?_) (fun _ => ?_)))

theorem ib_blank : ∀ n : Fin 256, decide (0 ≤ Lib.indexByte [32, 9, 10, 13] (n.1 : Int).toNat.toUInt8) = blkB (UInt8.ofNat n.1) := by decide +kernel
theorem blk_at (s : List UInt8) (j : Nat) : decide (0 ≤ Lib.indexByte [32, 9, 10, 13] (at' s j).toNat.toUInt8) = blkB (s.getD j 0) := by
  have h := ib_blank ⟨(s.getD j 0).toNat, (s.getD j 0).toNat_lt⟩
  rw [show UInt8.ofNat (s.getD j 0).toNat = s.getD j 0 by simp] at h
  exact h
theorem skN_more {s : List UInt8} {i j : Nat} (_h1 : i ≤ j) (h2 : j ≤ skN s i) (h3 : j < s.length) (h4 : blkB (s.getD j 0) = true) : j + 1 ≤ skN s i := by
  rcases Nat.lt_or_ge j (skN s i) with h | h
  · exact h
  · have e : j = skN s i := by omega
    have := skN_stop (s := s) (i := i) (by omega)
    rw [← e, h4] at this
    cases this
theorem skN_end {s : List UInt8} {i j : Nat} (h1 : i ≤ j) (h2 : j ≤ skN s i) (h3 : s.length ≤ j ∨ blkB (s.getD j 0) = false) (hi : i ≤ s.length) : skN s i = j := by
  have hle := (skN_le hi).2
  rcases h3 with h3 | h3
  · omega
  · rcases Nat.lt_or_ge j (skN s i) with h | h
    · exfalso
      have key : ∀ (q : List UInt8) (k : Nat), k < (q.takeWhile blkB).length → blkB (q.getD k 0) = true := by
        intro q
        induction q with
        | nil => intro k hk; simp at hk
        | cons c q ih =>
          intro k hk
          rw [List.takeWhile_cons] at hk
          by_cases hc : blkB c = true
          · rw [if_pos hc] at hk
            cases k with
            | zero => exact hc
            | succ k => exact ih k (by simpa using hk)
          · rw [if_neg hc] at hk
            simp at hk
      have := key (s.drop i) (j - i) (by unfold skN at h; omega)
      rw [show (s.drop i).getD (j - i) 0 = s.getD j 0 by simp [List.getD_eq_getElem?_getD, show i + (j - i) = j by omega], h3] at this
      cases this
    · omega

set_option maxRecDepth 100000 in
set_option maxHeartbeats 1000000 in
theorem jskip_ctr (s : List UInt8) (i : Nat) (hs : s.length ≤ 1048576) (hi : i ≤ s.length) : CtrO Tryd.prog 26 [.pv 13 0] (rdr s i) (.tu []) (rdr s (skN s i)) := by
  refine r_methM Tryd.func26 rfl Tryd.ntmps26 Tryd.results26 rfl rfl rfl rfl rfl fun X hL hX => ?_
  repeat' (first |with_reducible (first |refine t_seq ?_|refine t_region ?_|refine c_nil ?_|refine n_then ?_|refine t_ret ?_|refine t_skip ?_|refine t_exit ?_|refine t_block ?_|refine n_block ?_|refine e_then ?_|refine x_then ?_|refine x_block ?_|refine t_draw ?_)|refine r_val rfl rfl True.intro ?_|refine r_gskip rfl rfl rfl ?_|refine r_gskip2 rfl rfl rfl ?_|refine r_gval rfl rfl rfl rfl True.intro ?_|refine t_true rfl ?_|refine t_false rfl ?_|((first |refine t_cond_d rfl ?_ ?_|refine t_cond_i rfl ?_ ?_|refine t_cond_j rfl ?_ ?_|refine t_cond_s rfl ?_ ?_|refine t_cond_n rfl ?_ ?_|refine t_cond rfl ?_ ?_|refine c_split_d rfl rfl ?_ ?_|refine c_split_i rfl rfl ?_ ?_|refine c_split_j rfl rfl ?_ ?_|refine c_split_s rfl rfl ?_ ?_|refine c_split_n rfl rfl ?_ ?_)<;>intro<;>try (first |(rename_i hz;first |exact tf_ hz|exact ft_ hz)|(exfalso;omega)))|((first |refine r_val rfl rfl ?_ ?_|refine r_gval rfl rfl rfl rfl ?_ ?_|refine r_obj rfl rfl ?_ ?_|refine r_sto rfl ?_ ?_|refine r_gobj rfl rfl rfl rfl ?_ ?_);focus (first |omega|exact le_ rfl|((repeat first |rw [wrap_u8]|rw [IntKind.wrap_i64]|rw [IntKind.wrap_i32]|rw [wrap_u32']|rw [wrap_u64']);(repeat' refine And.intro ?_ ?_)<;>omega)|((repeat' refine And.intro ?_ ?_)<;>first |omega|rfl|exact Nat.le_refl _|exact le_ rfl|exact bytesF_one _)|(simp_all;done)|(simp_all;omega)))|refine e_hit rfl ?_|refine e_miss rfl ?_|with_reducible refine ⟨by kernel_rfl, ?_⟩|((with_reducible refine c_grd ?_);(fail_if_success (refine c_lit true rfl rfl rfl ?_));(fail_if_success (refine c_lit false rfl rfl rfl ?_));refine c_split rfl rfl (fun _ => ?_) (fun _ => ?_)))
  refine T.loop hL (fun _ : Nat => [(0, .pv 13 0)]) (fun j => rdr s j) (fun j => i ≤ j ∧ j ≤ skN s i) (fun j => s.length - j) i ⟨Nat.le_refl _, (skN_le hi).1⟩
    ⟨⟨rfl, trivial⟩, ⟨rfl, trivial⟩, rfl, fun q hq => by rw [hX] at hq; simp at hq; simp [hq]⟩ ?_
  rintro j ⟨h1, h2⟩
  have h3 := (skN_le hi).2
  by_cases hj : j < s.length
  · have c1 := indexByte_ctr [32, 9, 10, 13] (at' s j)
    have hb := blk_at s j
    cases hc : blkB (s.getD j 0) with
    | true =>
      rw [hc, decide_eq_true_eq] at hb
      have hm := skN_more h1 h2 hj hc
      repeat' (first |refine r_gcall (f := 44) rfl rfl rfl rfl Tryd.call44 rfl c1 ?_|with_reducible (first |refine t_seq ?_|refine t_region ?_|refine c_nil ?_|refine n_then ?_|refine t_ret ?_|refine t_skip ?_|refine t_exit ?_|refine t_block ?_|refine n_block ?_|refine e_then ?_|refine x_then ?_|refine x_block ?_|refine t_draw ?_)|refine r_val rfl rfl True.intro ?_|refine r_gskip rfl rfl rfl ?_|refine r_gskip2 rfl rfl rfl ?_|refine r_gval rfl rfl rfl rfl True.intro ?_|refine t_true rfl ?_|refine t_false rfl ?_|((first |refine t_cond_d rfl ?_ ?_|refine t_cond_i rfl ?_ ?_|refine t_cond_j rfl ?_ ?_|refine t_cond_s rfl ?_ ?_|refine t_cond_n rfl ?_ ?_|refine t_cond rfl ?_ ?_|refine c_split_d rfl rfl ?_ ?_|refine c_split_i rfl rfl ?_ ?_|refine c_split_j rfl rfl ?_ ?_|refine c_split_s rfl rfl ?_ ?_|refine c_split_n rfl rfl ?_ ?_)<;>intro<;>try (first |(rename_i hz;first |exact tf_ hz|exact ft_ hz)|(exfalso;omega)))|((first |refine r_val rfl rfl ?_ ?_|refine r_gval rfl rfl rfl rfl ?_ ?_|refine r_obj rfl rfl ?_ ?_|refine r_sto rfl ?_ ?_|refine r_gobj rfl rfl rfl rfl ?_ ?_);focus (first |omega|exact le_ rfl|((repeat first |rw [wrap_u8]|rw [IntKind.wrap_i64]|rw [IntKind.wrap_i32]|rw [wrap_u32']|rw [wrap_u64']);(repeat' refine And.intro ?_ ?_)<;>omega)|((repeat' refine And.intro ?_ ?_)<;>first |omega|rfl|exact Nat.le_refl _|exact le_ rfl|exact bytesF_one _)|(simp_all;done)|(simp_all;omega)))|refine e_hit rfl ?_|refine e_miss rfl ?_|with_reducible refine ⟨by kernel_rfl, ?_⟩|refine x_endM rfl rfl ⟨⟨rfl, trivial⟩⟩|refine n_endM rfl rfl ⟨⟨rfl, trivial⟩⟩|((with_reducible refine c_grd ?_);(fail_if_success (refine c_lit true rfl rfl rfl ?_));(fail_if_success (refine c_lit false rfl rfl rfl ?_));refine c_split rfl rfl (fun _ => ?_) (fun _ => ?_)))
      all_goals exact ⟨j + 1, ⟨by omega, hm⟩, by omega, ⟨rfl, trivial⟩, ⟨congrArg (fun x => some (Own.var [.s s, .i .i64 x])) (by omega), trivial⟩, rfl, fun q hq => by rw [hX] at hq; simp at hq; simp [hq]⟩
    | false =>
      rw [hc, decide_eq_false_iff_not] at hb
      rw [skN_end h1 h2 (.inr hc) hi]
      repeat' (first |refine r_gcall (f := 44) rfl rfl rfl rfl Tryd.call44 rfl c1 ?_|with_reducible (first |refine t_seq ?_|refine t_region ?_|refine c_nil ?_|refine n_then ?_|refine t_ret ?_|refine t_skip ?_|refine t_exit ?_|refine t_block ?_|refine n_block ?_|refine e_then ?_|refine x_then ?_|refine x_block ?_|refine t_draw ?_)|refine r_val rfl rfl True.intro ?_|refine r_gskip rfl rfl rfl ?_|refine r_gskip2 rfl rfl rfl ?_|refine r_gval rfl rfl rfl rfl True.intro ?_|refine t_true rfl ?_|refine t_false rfl ?_|((first |refine t_cond_d rfl ?_ ?_|refine t_cond_i rfl ?_ ?_|refine t_cond_j rfl ?_ ?_|refine t_cond_s rfl ?_ ?_|refine t_cond_n rfl ?_ ?_|refine t_cond rfl ?_ ?_|refine c_split_d rfl rfl ?_ ?_|refine c_split_i rfl rfl ?_ ?_|refine c_split_j rfl rfl ?_ ?_|refine c_split_s rfl rfl ?_ ?_|refine c_split_n rfl rfl ?_ ?_)<;>intro<;>try (first |(rename_i hz;first |exact tf_ hz|exact ft_ hz)|(exfalso;omega)))|((first |refine r_val rfl rfl ?_ ?_|refine r_gval rfl rfl rfl rfl ?_ ?_|refine r_obj rfl rfl ?_ ?_|refine r_sto rfl ?_ ?_|refine r_gobj rfl rfl rfl rfl ?_ ?_);focus (first |omega|exact le_ rfl|((repeat first |rw [wrap_u8]|rw [IntKind.wrap_i64]|rw [IntKind.wrap_i32]|rw [wrap_u32']|rw [wrap_u64']);(repeat' refine And.intro ?_ ?_)<;>omega)|((repeat' refine And.intro ?_ ?_)<;>first |omega|rfl|exact Nat.le_refl _|exact le_ rfl|exact bytesF_one _)|(simp_all;done)|(simp_all;omega)))|refine e_hit rfl ?_|refine e_miss rfl ?_|with_reducible refine ⟨by kernel_rfl, ?_⟩|refine x_endM rfl rfl ⟨⟨rfl, trivial⟩⟩|refine n_endM rfl rfl ⟨⟨rfl, trivial⟩⟩|((with_reducible refine c_grd ?_);(fail_if_success (refine c_lit true rfl rfl rfl ?_));(fail_if_success (refine c_lit false rfl rfl rfl ?_));refine c_split rfl rfl (fun _ => ?_) (fun _ => ?_)))
  · rw [skN_end h1 h2 (.inl (by omega)) hi]
    repeat' (first |with_reducible (first |refine t_seq ?_|refine t_region ?_|refine c_nil ?_|refine n_then ?_|refine t_ret ?_|refine t_skip ?_|refine t_exit ?_|refine t_block ?_|refine n_block ?_|refine e_then ?_|refine x_then ?_|refine x_block ?_|refine t_draw ?_)|refine r_val rfl rfl True.intro ?_|refine r_gskip rfl rfl rfl ?_|refine r_gskip2 rfl rfl rfl ?_|refine r_gval rfl rfl rfl rfl True.intro ?_|refine t_true rfl ?_|refine t_false rfl ?_|((first |refine t_cond_d rfl ?_ ?_|refine t_cond_i rfl ?_ ?_|refine t_cond_j rfl ?_ ?_|refine t_cond_s rfl ?_ ?_|refine t_cond_n rfl ?_ ?_|refine t_cond rfl ?_ ?_|refine c_split_d rfl rfl ?_ ?_|refine c_split_i rfl rfl ?_ ?_|refine c_split_j rfl rfl ?_ ?_|refine c_split_s rfl rfl ?_ ?_|refine c_split_n rfl rfl ?_ ?_)<;>intro<;>try (first |(rename_i hz;first |exact tf_ hz|exact ft_ hz)|(exfalso;omega)))|((first |refine r_val rfl rfl ?_ ?_|refine r_gval rfl rfl rfl rfl ?_ ?_|refine r_obj rfl rfl ?_ ?_|refine r_sto rfl ?_ ?_|refine r_gobj rfl rfl rfl rfl ?_ ?_);focus (first |omega|exact le_ rfl|((repeat first |rw [wrap_u8]|rw [IntKind.wrap_i64]|rw [IntKind.wrap_i32]|rw [wrap_u32']|rw [wrap_u64']);(repeat' refine And.intro ?_ ?_)<;>omega)|((repeat' refine And.intro ?_ ?_)<;>first |omega|rfl|exact Nat.le_refl _|exact le_ rfl|exact bytesF_one _)|(simp_all;done)|(simp_all;omega)))|refine e_hit rfl ?_|refine e_miss rfl ?_|with_reducible refine ⟨by kernel_rfl, ?_⟩|refine x_endM rfl rfl ⟨⟨rfl, trivial⟩⟩|refine n_endM rfl rfl ⟨⟨rfl, trivial⟩⟩|((with_reducible refine c_grd ?_);(fail_if_success (refine c_lit true rfl rfl rfl ?_));(fail_if_success (refine c_lit false rfl rfl rfl ?_));refine c_split rfl rfl (fun _ => ?_) (fun _ => ?_)))

def peekD (s : List UInt8) : Sum Nat (Nat × Int) → Sum (D × Nat) (Nat × Int)
  | .inl j => .inl (.i .u8 (at' s j), j)
  | .inr e => .inr e
set_option maxRecDepth 100000 in
set_option maxHeartbeats 1000000 in
theorem jpeek_ctr (s : List UInt8) (i : Nat) (hs : s.length ≤ 1048576) (hi : i ≤ s.length) : RdE 39 [.pv 13 0] s i (peekD s (jpeek s i)) := by
  have c1 := jskip_ctr s i hs hi
  have hle := skN_le hi
  unfold jpeek
  by_cases h : skN s i < s.length
  · rw [if_pos h]
    refine r_methM Tryd.func39 rfl Tryd.ntmps39 Tryd.results39 rfl rfl rfl rfl rfl fun X hL hX => ?_
    repeat' (first |refine r_lend1 (f := 26) 13 rfl rfl Tryd.call26 rfl rfl rfl rfl rfl c1 ?_|with_reducible (first |refine t_seq ?_|refine t_region ?_|refine c_nil ?_|refine n_then ?_|refine t_ret ?_|refine t_skip ?_|refine t_exit ?_|refine t_block ?_|refine n_block ?_|refine e_then ?_|refine x_then ?_|refine x_block ?_|refine t_draw ?_)|refine r_val rfl rfl True.intro ?_|refine r_gskip rfl rfl rfl ?_|refine r_gskip2 rfl rfl rfl ?_|refine r_gval rfl rfl rfl rfl True.intro ?_|refine t_true rfl ?_|refine t_false rfl ?_|((first |refine t_cond_d rfl ?_ ?_|refine t_cond_i rfl ?_ ?_|refine t_cond_j rfl ?_ ?_|refine t_cond_s rfl ?_ ?_|refine t_cond_n rfl ?_ ?_|refine t_cond rfl ?_ ?_|refine c_split_d rfl rfl ?_ ?_|refine c_split_i rfl rfl ?_ ?_|refine c_split_j rfl rfl ?_ ?_|refine c_split_s rfl rfl ?_ ?_|refine c_split_n rfl rfl ?_ ?_)<;>intro<;>try (first |(rename_i hz;first |exact tf_ hz|exact ft_ hz)|(exfalso;omega)))|((first |refine r_val rfl rfl ?_ ?_|refine r_gval rfl rfl rfl rfl ?_ ?_|refine r_obj rfl rfl ?_ ?_|refine r_sto rfl ?_ ?_|refine r_gobj rfl rfl rfl rfl ?_ ?_);focus (first |omega|exact le_ rfl|((repeat first |rw [wrap_u8]|rw [IntKind.wrap_i64]|rw [IntKind.wrap_i32]|rw [wrap_u32']|rw [wrap_u64']);(repeat' refine And.intro ?_ ?_)<;>omega)|((repeat' refine And.intro ?_ ?_)<;>first |omega|rfl|exact Nat.le_refl _|exact le_ rfl|exact bytesF_one _)|(simp_all;done)|(simp_all;omega)))|refine e_hit rfl ?_|refine e_miss rfl ?_|with_reducible refine ⟨by kernel_rfl, ?_⟩|refine x_endM rfl rfl ⟨⟨rfl, trivial⟩⟩|refine n_endM rfl rfl ⟨⟨rfl, trivial⟩⟩|((with_reducible refine c_grd ?_);(fail_if_success (refine c_lit true rfl rfl rfl ?_));(fail_if_success (refine c_lit false rfl rfl rfl ?_));refine c_split rfl rfl (fun _ => ?_) (fun _ => ?_)))
  · rw [if_neg h]
    have c2 := jfail_ctr (skN s i) 2
    refine r_methP Tryd.func39 rfl Tryd.ntmps39 rfl rfl rfl rfl fun X hL hX => ?_
    repeat' (first |(refine t_pan (id := 3) 4 ?_;dsimp only [splitOp])|refine r_lend1 (f := 26) 13 rfl rfl Tryd.call26 rfl rfl rfl rfl rfl c1 ?_|refine p_call rfl Tryd.call27 rfl c2 ?_|with_reducible (first |refine t_seq ?_|refine t_region ?_|refine c_nil ?_|refine n_then ?_|refine t_ret ?_|refine t_skip ?_|refine t_exit ?_|refine t_block ?_|refine n_block ?_|refine e_then ?_|refine x_then ?_|refine x_block ?_|refine t_draw ?_)|refine r_val rfl rfl True.intro ?_|refine r_gskip rfl rfl rfl ?_|refine r_gskip2 rfl rfl rfl ?_|refine r_gval rfl rfl rfl rfl True.intro ?_|refine t_true rfl ?_|refine t_false rfl ?_|((first |refine t_cond_d rfl ?_ ?_|refine t_cond_i rfl ?_ ?_|refine t_cond_j rfl ?_ ?_|refine t_cond_s rfl ?_ ?_|refine t_cond_n rfl ?_ ?_|refine t_cond rfl ?_ ?_|refine c_split_d rfl rfl ?_ ?_|refine c_split_i rfl rfl ?_ ?_|refine c_split_j rfl rfl ?_ ?_|refine c_split_s rfl rfl ?_ ?_|refine c_split_n rfl rfl ?_ ?_)<;>intro<;>try (first |(rename_i hz;first |exact tf_ hz|exact ft_ hz)|(exfalso;omega)))|((first |refine r_val rfl rfl ?_ ?_|refine r_gval rfl rfl rfl rfl ?_ ?_|refine r_obj rfl rfl ?_ ?_|refine r_sto rfl ?_ ?_|refine r_gobj rfl rfl rfl rfl ?_ ?_);focus (first |omega|exact le_ rfl|((repeat first |rw [wrap_u8]|rw [IntKind.wrap_i64]|rw [IntKind.wrap_i32]|rw [wrap_u32']|rw [wrap_u64']);(repeat' refine And.intro ?_ ?_)<;>omega)|((repeat' refine And.intro ?_ ?_)<;>first |omega|rfl|exact Nat.le_refl _|exact le_ rfl|exact bytesF_one _)|(simp_all;done)|(simp_all;omega)))|refine e_hit rfl ?_|refine e_miss rfl ?_|with_reducible refine ⟨by kernel_rfl, ?_⟩|refine p_then ?_|refine p_block ?_|refine p_endP rfl ⟨⟨_, rfl⟩, trivial⟩|((with_reducible refine c_grd ?_);(fail_if_success (refine c_lit true rfl rfl rfl ?_));(fail_if_success (refine c_lit false rfl rfl rfl ?_));refine c_split rfl rfl (fun _ => ?_) (fun _ => ?_)))

def litC (k : Int) (y : Bool) : List D := [.i .i64 k, .b y, .b false, .s [], .i .i64 0, .s [], .nilS, .nilS]
def litJ (k : Int) (y : Bool) : J := .mk k y false [] 0 [] [] []
theorem lit_weak (k : Int) (y : Bool) : Weak (.ag (litC k y)) (.ag (jC (litJ k y))) := by
  unfold litJ jC
  refine .ag _ _ rfl fun j hj => ?_
  match j, hj with
  | 0, _ => exact .refl _
  | 1, _ => exact .refl _
  | 2, _ => exact .refl _
  | 3, _ => exact .refl _
  | 4, _ => exact .refl _
  | 5, _ => exact .refl _
  | 6, _ => exact .nil 8 _
  | 7, _ => exact .nil 1 _
def wordD (k : Int) (y : Bool) : JR → Sum (D × Nat) (Nat × Int)
  | .inl (_, n) => .inl (.ag (litC k y), n)
  | .inr e => .inr e
theorem take_all (s : List UInt8) (i : Nat) : List.drop (i : Int).toNat (List.take (s.length : Int).toNat s) = s.drop i := by
  rw [Int.toNat_natCast, Int.toNat_natCast, List.take_length]

theorem hasPrefix_ctr (s p : List UInt8) : Ctr Tryd.prog 60 [.s s, .s p] (.b (Lib.hasPrefix s p)) := by
  intro w S vs hv hg hn hr
  have h0 := hr 0 (by simp)
  have h1 := hr 1 (by simp)
  rw [two_of hn]
  generalize vs.getD 0 undef = v0 at *
  generalize vs.getD 1 undef = v1 at *
  cases h0
  cases h1
  refine (Tryd.strings_HasPrefix ⟨s.toArray⟩ ⟨p.toArray⟩ w).mono ?_
  rintro e w' ⟨rfl, rfl⟩
  exact ⟨_, S, rfl, .b _ _, hist_same _ S hv hg⟩

set_option maxRecDepth 100000 in
set_option maxHeartbeats 1000000 in
theorem word_jctr (s w : List UInt8) (i : Nat) (k : Int) (y : Bool) (hs : s.length ≤ 1048576) (hw : w.length ≤ 10) (hi : i ≤ s.length) : RdE 40 [.pv 13 0, .s w, .ag (litC k y)] s i (wordD k y (jword s i w (litJ k y))) := by
  have c1 : Ctr Tryd.prog 60 [.s (List.drop (i : Int).toNat (List.take (s.length : Int).toNat s)), .s w] (.b (Lib.hasPrefix (s.drop i) w)) := by
    rw [take_all]
    exact hasPrefix_ctr _ _
  unfold jword
  cases h : Lib.hasPrefix (s.drop i) w with
  | true =>
    rw [h] at c1
    rw [if_pos rfl]
    refine r_methM Tryd.func40 rfl Tryd.ntmps40 Tryd.results40 rfl rfl rfl rfl rfl fun X hL hX => ?_
    repeat' (first |refine r_call (f := 60) rfl rfl Tryd.call60 rfl c1 ?_|with_reducible (first |refine t_seq ?_|refine t_region ?_|refine c_nil ?_|refine n_then ?_|refine t_ret ?_|refine t_skip ?_|refine t_exit ?_|refine t_block ?_|refine n_block ?_|refine e_then ?_|refine x_then ?_|refine x_block ?_|refine t_draw ?_)|refine r_val rfl rfl True.intro ?_|refine r_gskip rfl rfl rfl ?_|refine r_gskip2 rfl rfl rfl ?_|refine r_gval rfl rfl rfl rfl True.intro ?_|refine t_true rfl ?_|refine t_false rfl ?_|((first |refine t_cond_d rfl ?_ ?_|refine t_cond_i rfl ?_ ?_|refine t_cond_j rfl ?_ ?_|refine t_cond_s rfl ?_ ?_|refine t_cond_n rfl ?_ ?_|refine t_cond rfl ?_ ?_|refine c_split_d rfl rfl ?_ ?_|refine c_split_i rfl rfl ?_ ?_|refine c_split_j rfl rfl ?_ ?_|refine c_split_s rfl rfl ?_ ?_|refine c_split_n rfl rfl ?_ ?_)<;>intro<;>try (first |(rename_i hz;first |exact tf_ hz|exact ft_ hz)|(exfalso;omega)))|((first |refine r_val rfl rfl ?_ ?_|refine r_gval rfl rfl rfl rfl ?_ ?_|refine r_obj rfl rfl ?_ ?_|refine r_sto rfl ?_ ?_|refine r_gobj rfl rfl rfl rfl ?_ ?_);focus (first |omega|exact le_ rfl|((repeat first |rw [wrap_u8]|rw [IntKind.wrap_i64]|rw [IntKind.wrap_i32]|rw [wrap_u32']|rw [wrap_u64']);(repeat' refine And.intro ?_ ?_)<;>omega)|((repeat' refine And.intro ?_ ?_)<;>first |omega|rfl|exact Nat.le_refl _|exact le_ rfl|exact bytesF_one _)|(simp_all;done)|(simp_all;omega)))|refine e_hit rfl ?_|refine e_miss rfl ?_|with_reducible refine ⟨by kernel_rfl, ?_⟩|refine x_endM rfl rfl ⟨⟨?_, trivial⟩⟩|refine n_endM rfl rfl ⟨⟨?_, trivial⟩⟩|((with_reducible refine c_grd ?_);(fail_if_success (refine c_lit true rfl rfl rfl ?_));(fail_if_success (refine c_lit false rfl rfl rfl ?_));refine c_split rfl rfl (fun _ => ?_) (fun _ => ?_)))
    all_goals exact congrArg (fun x => some (Own.var [.s s, .i .i64 x])) (by omega)
  | false =>
    rw [h] at c1
    rw [if_neg Bool.false_ne_true]
    have c2 := jfail_ctr i 3
    refine r_methP Tryd.func40 rfl Tryd.ntmps40 rfl rfl rfl rfl fun X hL hX => ?_
    repeat' (first |(refine t_pan (id := 2) 4 ?_;dsimp only [splitOp])|refine r_call (f := 60) rfl rfl Tryd.call60 rfl c1 ?_|refine p_call rfl Tryd.call27 rfl c2 ?_|with_reducible (first |refine t_seq ?_|refine t_region ?_|refine c_nil ?_|refine n_then ?_|refine t_ret ?_|refine t_skip ?_|refine t_exit ?_|refine t_block ?_|refine n_block ?_|refine e_then ?_|refine x_then ?_|refine x_block ?_|refine t_draw ?_)|refine r_val rfl rfl True.intro ?_|refine r_gskip rfl rfl rfl ?_|refine r_gskip2 rfl rfl rfl ?_|refine r_gval rfl rfl rfl rfl True.intro ?_|refine t_true rfl ?_|refine t_false rfl ?_|((first |refine t_cond_d rfl ?_ ?_|refine t_cond_i rfl ?_ ?_|refine t_cond_j rfl ?_ ?_|refine t_cond_s rfl ?_ ?_|refine t_cond_n rfl ?_ ?_|refine t_cond rfl ?_ ?_|refine c_split_d rfl rfl ?_ ?_|refine c_split_i rfl rfl ?_ ?_|refine c_split_j rfl rfl ?_ ?_|refine c_split_s rfl rfl ?_ ?_|refine c_split_n rfl rfl ?_ ?_)<;>intro<;>try (first |(rename_i hz;first |exact tf_ hz|exact ft_ hz)|(exfalso;omega)))|((first |refine r_val rfl rfl ?_ ?_|refine r_gval rfl rfl rfl rfl ?_ ?_|refine r_obj rfl rfl ?_ ?_|refine r_sto rfl ?_ ?_|refine r_gobj rfl rfl rfl rfl ?_ ?_);focus (first |omega|exact le_ rfl|((repeat first |rw [wrap_u8]|rw [IntKind.wrap_i64]|rw [IntKind.wrap_i32]|rw [wrap_u32']|rw [wrap_u64']);(repeat' refine And.intro ?_ ?_)<;>omega)|((repeat' refine And.intro ?_ ?_)<;>first |omega|rfl|exact Nat.le_refl _|exact le_ rfl|exact bytesF_one _)|(simp_all;done)|(simp_all;omega)))|refine e_hit rfl ?_|refine e_miss rfl ?_|with_reducible refine ⟨by kernel_rfl, ?_⟩|refine p_then ?_|refine p_block ?_|refine p_endP rfl ⟨⟨_, rfl⟩, trivial⟩|((with_reducible refine c_grd ?_);(fail_if_success (refine c_lit true rfl rfl rfl ?_));(fail_if_success (refine c_lit false rfl rfl rfl ?_));refine c_split rfl rfl (fun _ => ?_) (fun _ => ?_)))

def textD : Sum (List UInt8 × Nat) (Nat × Int) → Sum (D × Nat) (Nat × Int)
  | .inl (t, n) => .inl (.s t, n)
  | .inr e => .inr e
set_option maxRecDepth 100000 in
set_option maxHeartbeats 1000000 in
theorem text_jctr (s : List UInt8) (i : Nat) (hs : s.length ≤ 1048576) (_hi : i ≤ s.length) : RdE 41 [.pv 13 0] s i (textD (jtext s i)) := by
  have c1 := unq_ctr s i hs
  have hn := @unq_next s i
  unfold jtext
  generalize unqF s i = R at *
  obtain ⟨t, n, e⟩ := R
  dsimp only at hn c1 ⊢
  by_cases h : e = 0
  · rw [if_pos h]
    have hn := hn h
    subst h
    obtain ⟨n', rfl⟩ : ∃ n' : Nat, n = n' := ⟨n.toNat, by omega⟩
    rw [Int.toNat_natCast]
    refine r_methM Tryd.func41 rfl Tryd.ntmps41 Tryd.results41 rfl rfl rfl rfl rfl fun X hL hX => ?_
    repeat' (first |refine r_call (f := 61) rfl rfl Tryd.call61 rfl c1 ?_|with_reducible (first |refine t_seq ?_|refine t_region ?_|refine c_nil ?_|refine n_then ?_|refine t_ret ?_|refine t_skip ?_|refine t_exit ?_|refine t_block ?_|refine n_block ?_|refine e_then ?_|refine x_then ?_|refine x_block ?_|refine t_draw ?_)|refine r_val rfl rfl True.intro ?_|refine r_gskip rfl rfl rfl ?_|refine r_gskip2 rfl rfl rfl ?_|refine r_gval rfl rfl rfl rfl True.intro ?_|refine t_true rfl ?_|refine t_false rfl ?_|((first |refine t_cond_d rfl ?_ ?_|refine t_cond_i rfl ?_ ?_|refine t_cond_j rfl ?_ ?_|refine t_cond_s rfl ?_ ?_|refine t_cond_n rfl ?_ ?_|refine t_cond rfl ?_ ?_|refine c_split_d rfl rfl ?_ ?_|refine c_split_i rfl rfl ?_ ?_|refine c_split_j rfl rfl ?_ ?_|refine c_split_s rfl rfl ?_ ?_|refine c_split_n rfl rfl ?_ ?_)<;>intro<;>try (first |(rename_i hz;first |exact tf_ hz|exact ft_ hz)|(exfalso;omega)))|((first |refine r_val rfl rfl ?_ ?_|refine r_gval rfl rfl rfl rfl ?_ ?_|refine r_obj rfl rfl ?_ ?_|refine r_sto rfl ?_ ?_|refine r_gobj rfl rfl rfl rfl ?_ ?_);focus (first |omega|exact le_ rfl|((repeat first |rw [wrap_u8]|rw [IntKind.wrap_i64]|rw [IntKind.wrap_i32]|rw [wrap_u32']|rw [wrap_u64']);(repeat' refine And.intro ?_ ?_)<;>omega)|((repeat' refine And.intro ?_ ?_)<;>first |omega|rfl|exact Nat.le_refl _|exact le_ rfl|exact bytesF_one _)|(simp_all;done)|(simp_all;omega)))|refine e_hit rfl ?_|refine e_miss rfl ?_|with_reducible refine ⟨by kernel_rfl, ?_⟩|refine x_endM rfl rfl ⟨⟨rfl, trivial⟩⟩|refine n_endM rfl rfl ⟨⟨rfl, trivial⟩⟩|((with_reducible refine c_grd ?_);(fail_if_success (refine c_lit true rfl rfl rfl ?_));(fail_if_success (refine c_lit false rfl rfl rfl ?_));refine c_split rfl rfl (fun _ => ?_) (fun _ => ?_)))
  · rw [if_neg h]
    have c2 := jfail_ctr i e
    refine r_methP Tryd.func41 rfl Tryd.ntmps41 rfl rfl rfl rfl fun X hL hX => ?_
    repeat' (first |(refine t_pan (id := 3) 5 ?_;dsimp only [splitOp])|refine r_call (f := 61) rfl rfl Tryd.call61 rfl c1 ?_|refine p_call rfl Tryd.call27 rfl c2 ?_|with_reducible (first |refine t_seq ?_|refine t_region ?_|refine c_nil ?_|refine n_then ?_|refine t_ret ?_|refine t_skip ?_|refine t_exit ?_|refine t_block ?_|refine n_block ?_|refine e_then ?_|refine x_then ?_|refine x_block ?_|refine t_draw ?_)|refine r_val rfl rfl True.intro ?_|refine r_gskip rfl rfl rfl ?_|refine r_gskip2 rfl rfl rfl ?_|refine r_gval rfl rfl rfl rfl True.intro ?_|refine t_true rfl ?_|refine t_false rfl ?_|((first |refine t_cond_d rfl ?_ ?_|refine t_cond_i rfl ?_ ?_|refine t_cond_j rfl ?_ ?_|refine t_cond_s rfl ?_ ?_|refine t_cond_n rfl ?_ ?_|refine t_cond rfl ?_ ?_|refine c_split_d rfl rfl ?_ ?_|refine c_split_i rfl rfl ?_ ?_|refine c_split_j rfl rfl ?_ ?_|refine c_split_s rfl rfl ?_ ?_|refine c_split_n rfl rfl ?_ ?_)<;>intro<;>try (first |(rename_i hz;first |exact tf_ hz|exact ft_ hz)|(exfalso;omega)))|((first |refine r_val rfl rfl ?_ ?_|refine r_gval rfl rfl rfl rfl ?_ ?_|refine r_obj rfl rfl ?_ ?_|refine r_sto rfl ?_ ?_|refine r_gobj rfl rfl rfl rfl ?_ ?_);focus (first |omega|exact le_ rfl|((repeat first |rw [wrap_u8]|rw [IntKind.wrap_i64]|rw [IntKind.wrap_i32]|rw [wrap_u32']|rw [wrap_u64']);(repeat' refine And.intro ?_ ?_)<;>omega)|((repeat' refine And.intro ?_ ?_)<;>first |omega|rfl|exact Nat.le_refl _|exact le_ rfl|exact bytesF_one _)|(simp_all;done)|(simp_all;omega)))|refine e_hit rfl ?_|refine e_miss rfl ?_|with_reducible refine ⟨by kernel_rfl, ?_⟩|refine p_then ?_|refine p_block ?_|refine p_endP rfl ⟨⟨_, rfl⟩, trivial⟩|((with_reducible refine c_grd ?_);(fail_if_success (refine c_lit true rfl rfl rfl ?_));(fail_if_success (refine c_lit false rfl rfl rfl ?_));refine c_split rfl rfl (fun _ => ?_) (fun _ => ?_)))

theorem num_ctr (n : Bool) (d : List UInt8) (e : Int) : Ctr Tryd.prog 17 [.ag [.b n, .s d, .i .i64 e]] (.ag [.i .i64 2, .b false, .b n, .s d, .i .i64 e, .s [], .nilS, .nilS]) := by
  refine r_fun Tryd.func17 rfl Tryd.ntmps17 Tryd.results17 rfl rfl fun X hL hX => ?_
  repeat' (first |with_reducible (first |refine t_seq ?_|refine t_region ?_|refine c_nil ?_|refine n_then ?_|refine t_ret ?_|refine t_skip ?_|refine t_exit ?_|refine t_block ?_|refine n_block ?_|refine e_then ?_|refine x_then ?_|refine x_block ?_|refine t_draw ?_)|refine r_val rfl rfl True.intro ?_|refine r_gskip rfl rfl rfl ?_|refine r_gskip2 rfl rfl rfl ?_|refine r_gval rfl rfl rfl rfl True.intro ?_|refine t_true rfl ?_|refine t_false rfl ?_|((first |refine t_cond_d rfl ?_ ?_|refine t_cond_i rfl ?_ ?_|refine t_cond_j rfl ?_ ?_|refine t_cond_s rfl ?_ ?_|refine t_cond_n rfl ?_ ?_|refine t_cond rfl ?_ ?_|refine c_split_d rfl rfl ?_ ?_|refine c_split_i rfl rfl ?_ ?_|refine c_split_j rfl rfl ?_ ?_|refine c_split_s rfl rfl ?_ ?_|refine c_split_n rfl rfl ?_ ?_)<;>intro<;>try (first |(rename_i hz;first |exact tf_ hz|exact ft_ hz)|(exfalso;omega)))|((first |refine r_val rfl rfl ?_ ?_|refine r_gval rfl rfl rfl rfl ?_ ?_|refine r_obj rfl rfl ?_ ?_|refine r_sto rfl ?_ ?_|refine r_gobj rfl rfl rfl rfl ?_ ?_);focus (first |omega|exact le_ rfl|((repeat first |rw [wrap_u8]|rw [IntKind.wrap_i64]|rw [IntKind.wrap_i32]|rw [wrap_u32']|rw [wrap_u64']);(repeat' refine And.intro ?_ ?_)<;>omega)|((repeat' refine And.intro ?_ ?_)<;>first |omega|rfl|exact Nat.le_refl _|exact le_ rfl|exact bytesF_one _)|(simp_all;done)|(simp_all;omega)))|refine e_hit rfl ?_|refine e_miss rfl ?_|with_reducible refine ⟨by kernel_rfl, ?_⟩|refine x_end rfl ?_|refine n_end rfl ?_|((with_reducible refine c_grd ?_);(fail_if_success (refine c_lit true rfl rfl rfl ?_));(fail_if_success (refine c_lit false rfl rfl rfl ?_));refine c_split rfl rfl (fun _ => ?_) (fun _ => ?_)))
  all_goals rfl

def numC (r : Bool × List UInt8 × Int) : List D := [.i .i64 2, .b false, .b r.1, .s r.2.1, .i .i64 r.2.2, .s [], .nilS, .nilS]
theorem num_weak (r : Bool × List UInt8 × Int) : Weak (.ag (numC r)) (.ag (jC (jnumV r))) := by
  unfold jnumV jC
  refine .ag _ _ rfl fun j hj => ?_
  match j, hj with
  | 0, _ => exact .refl _
  | 1, _ => exact .refl _
  | 2, _ => exact .refl _
  | 3, _ => exact .refl _
  | 4, _ => exact .refl _
  | 5, _ => exact .refl _
  | 6, _ => exact .nil 8 _
  | 7, _ => exact .nil 1 _
def numD (s : List UInt8) (i : Nat) : JR → Sum (D × Nat) (Nat × Int)
  | .inl (_, n) => .inl (.ag (numC (parseG powP (s.drop i)).1), n)
  | .inr e => .inr e
set_option maxRecDepth 100000 in
set_option maxHeartbeats 1000000 in
theorem number_jctr (s : List UInt8) (i : Nat) (hs : s.length ≤ 1048576) (hi : i ≤ s.length) : RdE 43 [.pv 13 0] s i (numD s i (jnum s i)) := by
  have c1 : Ctr Tryd.prog 63 [.s (List.drop (i : Int).toNat (List.take (s.length : Int).toNat s))] (.tu [dcV (parseG powP (s.drop i)).1, .i .i64 (parseG powP (s.drop i)).2.1, .i .i64 (parseG powP (s.drop i)).2.2]) := by
    rw [take_all]
    exact parse_ctr _ (by rw [List.length_drop]; omega)
  have hn := num_next powP (s.drop i)
  rw [List.length_drop] at hn
  unfold jnum numD
  generalize parseG powP (s.drop i) = R at *
  obtain ⟨⟨ng, dg, ex⟩, n, e⟩ := R
  dsimp only at hn c1 ⊢
  have c3 := num_ctr ng dg ex
  by_cases h : e = 0
  · rw [if_pos h]
    have hn := hn h
    subst h
    refine r_methM Tryd.func43 rfl Tryd.ntmps43 Tryd.results43 rfl rfl rfl rfl rfl fun X hL hX => ?_
    repeat' (first |refine r_call (f := 63) rfl rfl Tryd.call63 rfl c1 ?_|refine r_call (f := 17) rfl rfl Tryd.call17 rfl c3 ?_|with_reducible (first |refine t_seq ?_|refine t_region ?_|refine c_nil ?_|refine n_then ?_|refine t_ret ?_|refine t_skip ?_|refine t_exit ?_|refine t_block ?_|refine n_block ?_|refine e_then ?_|refine x_then ?_|refine x_block ?_|refine t_draw ?_)|refine r_val rfl rfl True.intro ?_|refine r_gskip rfl rfl rfl ?_|refine r_gskip2 rfl rfl rfl ?_|refine r_gval rfl rfl rfl rfl True.intro ?_|refine t_true rfl ?_|refine t_false rfl ?_|((first |refine t_cond_d rfl ?_ ?_|refine t_cond_i rfl ?_ ?_|refine t_cond_j rfl ?_ ?_|refine t_cond_s rfl ?_ ?_|refine t_cond_n rfl ?_ ?_|refine t_cond rfl ?_ ?_|refine c_split_d rfl rfl ?_ ?_|refine c_split_i rfl rfl ?_ ?_|refine c_split_j rfl rfl ?_ ?_|refine c_split_s rfl rfl ?_ ?_|refine c_split_n rfl rfl ?_ ?_)<;>intro<;>try (first |(rename_i hz;first |exact tf_ hz|exact ft_ hz)|(exfalso;omega)))|((first |refine r_val rfl rfl ?_ ?_|refine r_gval rfl rfl rfl rfl ?_ ?_|refine r_obj rfl rfl ?_ ?_|refine r_sto rfl ?_ ?_|refine r_gobj rfl rfl rfl rfl ?_ ?_);focus (first |omega|exact le_ rfl|((repeat first |rw [wrap_u8]|rw [IntKind.wrap_i64]|rw [IntKind.wrap_i32]|rw [wrap_u32']|rw [wrap_u64']);(repeat' refine And.intro ?_ ?_)<;>omega)|((repeat' refine And.intro ?_ ?_)<;>first |omega|rfl|exact Nat.le_refl _|exact le_ rfl|exact bytesF_one _)|(simp_all;done)|(simp_all;omega)))|refine e_hit rfl ?_|refine e_miss rfl ?_|with_reducible refine ⟨by kernel_rfl, ?_⟩|refine x_endM rfl rfl ⟨⟨?_, trivial⟩⟩|refine n_endM rfl rfl ⟨⟨?_, trivial⟩⟩|((with_reducible refine c_grd ?_);(fail_if_success (refine c_lit true rfl rfl rfl ?_));(fail_if_success (refine c_lit false rfl rfl rfl ?_));refine c_split rfl rfl (fun _ => ?_) (fun _ => ?_)))
    all_goals exact congrArg (fun x => some (Own.var [.s s, .i .i64 x])) (by omega)
  · rw [if_neg h]
    have c2 := jfail_ctr i e
    refine r_methP Tryd.func43 rfl Tryd.ntmps43 rfl rfl rfl rfl fun X hL hX => ?_
    repeat' (first |(refine t_pan (id := 3) 5 ?_;dsimp only [splitOp])|refine r_call (f := 63) rfl rfl Tryd.call63 rfl c1 ?_|refine p_call rfl Tryd.call27 rfl c2 ?_|with_reducible (first |refine t_seq ?_|refine t_region ?_|refine c_nil ?_|refine n_then ?_|refine t_ret ?_|refine t_skip ?_|refine t_exit ?_|refine t_block ?_|refine n_block ?_|refine e_then ?_|refine x_then ?_|refine x_block ?_|refine t_draw ?_)|refine r_val rfl rfl True.intro ?_|refine r_gskip rfl rfl rfl ?_|refine r_gskip2 rfl rfl rfl ?_|refine r_gval rfl rfl rfl rfl True.intro ?_|refine t_true rfl ?_|refine t_false rfl ?_|((first |refine t_cond_d rfl ?_ ?_|refine t_cond_i rfl ?_ ?_|refine t_cond_j rfl ?_ ?_|refine t_cond_s rfl ?_ ?_|refine t_cond_n rfl ?_ ?_|refine t_cond rfl ?_ ?_|refine c_split_d rfl rfl ?_ ?_|refine c_split_i rfl rfl ?_ ?_|refine c_split_j rfl rfl ?_ ?_|refine c_split_s rfl rfl ?_ ?_|refine c_split_n rfl rfl ?_ ?_)<;>intro<;>try (first |(rename_i hz;first |exact tf_ hz|exact ft_ hz)|(exfalso;omega)))|((first |refine r_val rfl rfl ?_ ?_|refine r_gval rfl rfl rfl rfl ?_ ?_|refine r_obj rfl rfl ?_ ?_|refine r_sto rfl ?_ ?_|refine r_gobj rfl rfl rfl rfl ?_ ?_);focus (first |omega|exact le_ rfl|((repeat first |rw [wrap_u8]|rw [IntKind.wrap_i64]|rw [IntKind.wrap_i32]|rw [wrap_u32']|rw [wrap_u64']);(repeat' refine And.intro ?_ ?_)<;>omega)|((repeat' refine And.intro ?_ ?_)<;>first |omega|rfl|exact Nat.le_refl _|exact le_ rfl|exact bytesF_one _)|(simp_all;done)|(simp_all;omega)))|refine e_hit rfl ?_|refine e_miss rfl ?_|with_reducible refine ⟨by kernel_rfl, ?_⟩|refine p_then ?_|refine p_block ?_|refine p_endP rfl ⟨⟨_, rfl⟩, trivial⟩|((with_reducible refine c_grd ?_);(fail_if_success (refine c_lit true rfl rfl rfl ?_));(fail_if_success (refine c_lit false rfl rfl rfl ?_));refine c_split rfl rfl (fun _ => ?_) (fun _ => ?_)))

end Go.Proofs.YtbegohehjkjnmaaDoor.Flow
