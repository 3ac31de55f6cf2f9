/- The texts J18, FlowRb, J19, one behind the other. -/
import Derived.Test.YtbegohehjkjnmaaDoorJQ28
import Derived.Test.YtbegohehjkjnmaaDoorJQ30
/- JSON: JsonSames' function. -/
namespace Go.Proofs.YtbegohehjkjnmaaDoor.Flow
open Go

theorem getJ_w (x : J) (k : List UInt8) : jw (getJ x k).1 ≤ jw x := by
  have h1 := jw_pos x
  have h2 : jw j0 = 1 := rfl
  unfold getJ
  split
  · rename_i h
    dsimp only
    have h3 := jw_eq x
    have h4 := jwL_at (l := x.list) (i := (idxJ k x.keys).toNat) (by omega)
    omega
  · dsimp only
    omega
theorem jP_lit (k : Int) (y n : Bool) (d : List UInt8) (e : Int) (t : List UInt8) : Weak (.ag [.i .i64 k, .b y, .b n, .s d, .i .i64 e, .s t, .nilS, .nilS]) (.ag (jP (.mk k y n d e t [] []))) := by
  rw [← jC_P]
  exact cells_weak k y n d e t

set_option maxRecDepth 100000 in
set_option maxHeartbeats 8000000 in
theorem jlaw_sames_ctr (x y : J) (key : List UInt8) (ng : Bool) (dg : List UInt8) (ex : Int) (hx : jb x ≤ 4194304) (hy : jb y ≤ 4194304) : Ctr Tryd.prog 4 [.ag (jP x), .ag (jP y), .s key, .ag [.b ng, .s dg, .i .i64 ex]] (.b true) := by
  have hl := jlive_ctr
  have b1 := big_ctr x hx
  have b2 := big_ctr y hy
  cases q1 : decide (400 < wgJ 80 x) with
  | true =>
    rw [q1] at b1
    refine r_fun Tryd.func4 rfl Tryd.ntmps4 Tryd.results4 rfl rfl fun X hL hX => ?_
    repeat' (first
      | refine r_call (f := 12) rfl rfl Tryd.call12 rfl b1 ?_ | refine r_call (f := 7) rfl rfl Tryd.call7 rfl hl ?_
      | with_reducible (first | refine t_seq ?_ | refine t_region ?_ | refine c_nil ?_ | refine n_then ?_ | refine t_ret ?_ | refine t_skip ?_ | refine t_exit ?_ | refine t_block ?_ | refine n_block ?_ | refine e_then ?_ | refine x_then ?_ | refine x_block ?_ | refine t_draw ?_)
      | refine r_val rfl rfl True.intro ?_ | refine r_gskip rfl rfl rfl ?_ | refine r_gskip2 rfl rfl rfl ?_ | refine r_gval rfl rfl rfl rfl True.intro ?_
      | refine t_true rfl ?_ | refine t_false rfl ?_
      | ((first | refine t_cond_d rfl ?_ ?_ | refine t_cond_i rfl ?_ ?_ | refine t_cond_j rfl ?_ ?_ | refine t_cond_s rfl ?_ ?_ | refine t_cond_n rfl ?_ ?_ | refine t_cond rfl ?_ ?_ | refine c_split_d rfl rfl ?_ ?_ | refine c_split_i rfl rfl ?_ ?_ | refine c_split_j rfl rfl ?_ ?_ | refine c_split_s rfl rfl ?_ ?_ | refine c_split_n rfl rfl ?_ ?_) <;> intro <;> try (first | (rename_i hz; exact Bool.noConfusion (show true = false from hz)) | (rename_i hz; exact Bool.noConfusion (show false = true from hz)) | (exfalso; omega)))
      | ((first | refine r_val rfl rfl ?_ ?_ | refine r_gval rfl rfl rfl rfl ?_ ?_ | refine r_obj rfl rfl ?_ ?_ | refine r_sto rfl ?_ ?_ | refine r_gobj rfl rfl rfl rfl ?_ ?_); focus (first | omega | exact Nat.le_of_ble_eq_true rfl | ((repeat first | rw [wrap_u8] | rw [IntKind.wrap_i64] | rw [IntKind.wrap_i32] | rw [wrap_u32'] | rw [wrap_u64']); (repeat' refine And.intro ?_ ?_) <;> omega) | ((repeat' refine And.intro ?_ ?_) <;> first | omega | rfl | exact Nat.le_refl _ | exact Nat.le_of_ble_eq_true rfl | exact bytesF_one _) | (simp_all; done) | (simp_all; omega)))
      | refine e_hit rfl ?_ | refine e_miss rfl ?_
      | with_reducible refine ⟨by kernel_rfl, ?_⟩ | refine x_end rfl ?_ | ((with_reducible refine c_grd ?_); (fail_if_success (refine c_lit true rfl rfl rfl ?_)); (fail_if_success (refine c_lit false rfl rfl rfl ?_)); refine c_split rfl rfl (fun _ => ?_) (fun _ => ?_)))
    all_goals rfl
  | false =>
    rw [q1] at b1
    cases q2 : decide (400 < wgJ 80 y) with
    | true =>
      rw [q2] at b2
      refine r_fun Tryd.func4 rfl Tryd.ntmps4 Tryd.results4 rfl rfl fun X hL hX => ?_
      repeat' (first
        | refine r_call (f := 12) rfl rfl Tryd.call12 rfl b1 ?_ | refine r_gcall (f := 12) rfl rfl rfl rfl Tryd.call12 rfl b2 ?_ | refine r_call (f := 12) rfl rfl Tryd.call12 rfl b2 ?_ | refine r_call (f := 7) rfl rfl Tryd.call7 rfl hl ?_
        | with_reducible (first | refine t_seq ?_ | refine t_region ?_ | refine c_nil ?_ | refine n_then ?_ | refine t_ret ?_ | refine t_skip ?_ | refine t_exit ?_ | refine t_block ?_ | refine n_block ?_ | refine e_then ?_ | refine x_then ?_ | refine x_block ?_ | refine t_draw ?_)
        | refine r_val rfl rfl True.intro ?_ | refine r_gskip rfl rfl rfl ?_ | refine r_gskip2 rfl rfl rfl ?_ | refine r_gval rfl rfl rfl rfl True.intro ?_
        | refine t_true rfl ?_ | refine t_false rfl ?_
        | ((first | refine t_cond_d rfl ?_ ?_ | refine t_cond_i rfl ?_ ?_ | refine t_cond_j rfl ?_ ?_ | refine t_cond_s rfl ?_ ?_ | refine t_cond_n rfl ?_ ?_ | refine t_cond rfl ?_ ?_ | refine c_split_d rfl rfl ?_ ?_ | refine c_split_i rfl rfl ?_ ?_ | refine c_split_j rfl rfl ?_ ?_ | refine c_split_s rfl rfl ?_ ?_ | refine c_split_n rfl rfl ?_ ?_) <;> intro <;> try (first | (rename_i hz; exact Bool.noConfusion (show true = false from hz)) | (rename_i hz; exact Bool.noConfusion (show false = true from hz)) | (exfalso; omega)))
        | ((first | refine r_val rfl rfl ?_ ?_ | refine r_gval rfl rfl rfl rfl ?_ ?_ | refine r_obj rfl rfl ?_ ?_ | refine r_sto rfl ?_ ?_ | refine r_gobj rfl rfl rfl rfl ?_ ?_); focus (first | omega | exact Nat.le_of_ble_eq_true rfl | ((repeat first | rw [wrap_u8] | rw [IntKind.wrap_i64] | rw [IntKind.wrap_i32] | rw [wrap_u32'] | rw [wrap_u64']); (repeat' refine And.intro ?_ ?_) <;> omega) | ((repeat' refine And.intro ?_ ?_) <;> first | omega | rfl | exact Nat.le_refl _ | exact Nat.le_of_ble_eq_true rfl | exact bytesF_one _) | (simp_all; done) | (simp_all; omega)))
        | refine e_hit rfl ?_ | refine e_miss rfl ?_
        | with_reducible refine ⟨by kernel_rfl, ?_⟩ | refine x_end rfl ?_ | ((with_reducible refine c_grd ?_); (fail_if_success (refine c_lit true rfl rfl rfl ?_)); (fail_if_success (refine c_lit false rfl rfl rfl ?_)); refine c_split rfl rfl (fun _ => ?_) (fun _ => ?_)))
      all_goals rfl
    | false =>
      rw [q2] at b2
      by_cases q3 : 100 < key.length
      · refine r_fun Tryd.func4 rfl Tryd.ntmps4 Tryd.results4 rfl rfl fun X hL hX => ?_
        repeat' (first
          | refine r_call (f := 12) rfl rfl Tryd.call12 rfl b1 ?_ | refine r_gcall (f := 12) rfl rfl rfl rfl Tryd.call12 rfl b2 ?_ | refine r_call (f := 12) rfl rfl Tryd.call12 rfl b2 ?_ | refine r_call (f := 7) rfl rfl Tryd.call7 rfl hl ?_
          | with_reducible (first | refine t_seq ?_ | refine t_region ?_ | refine c_nil ?_ | refine n_then ?_ | refine t_ret ?_ | refine t_skip ?_ | refine t_exit ?_ | refine t_block ?_ | refine n_block ?_ | refine e_then ?_ | refine x_then ?_ | refine x_block ?_ | refine t_draw ?_)
          | refine r_val rfl rfl True.intro ?_ | refine r_gskip rfl rfl rfl ?_ | refine r_gskip2 rfl rfl rfl ?_ | refine r_gval rfl rfl rfl rfl True.intro ?_
          | refine t_true rfl ?_ | refine t_false rfl ?_
          | ((first | refine t_cond_d rfl ?_ ?_ | refine t_cond_i rfl ?_ ?_ | refine t_cond_j rfl ?_ ?_ | refine t_cond_s rfl ?_ ?_ | refine t_cond_n rfl ?_ ?_ | refine t_cond rfl ?_ ?_ | refine c_split_d rfl rfl ?_ ?_ | refine c_split_i rfl rfl ?_ ?_ | refine c_split_j rfl rfl ?_ ?_ | refine c_split_s rfl rfl ?_ ?_ | refine c_split_n rfl rfl ?_ ?_) <;> intro <;> try (first | (rename_i hz; exact Bool.noConfusion (show true = false from hz)) | (rename_i hz; exact Bool.noConfusion (show false = true from hz)) | (exfalso; omega)))
          | ((first | refine r_val rfl rfl ?_ ?_ | refine r_gval rfl rfl rfl rfl ?_ ?_ | refine r_obj rfl rfl ?_ ?_ | refine r_sto rfl ?_ ?_ | refine r_gobj rfl rfl rfl rfl ?_ ?_); focus (first | omega | exact Nat.le_of_ble_eq_true rfl | ((repeat first | rw [wrap_u8] | rw [IntKind.wrap_i64] | rw [IntKind.wrap_i32] | rw [wrap_u32'] | rw [wrap_u64']); (repeat' refine And.intro ?_ ?_) <;> omega) | ((repeat' refine And.intro ?_ ?_) <;> first | omega | rfl | exact Nat.le_refl _ | exact Nat.le_of_ble_eq_true rfl | exact bytesF_one _) | (simp_all; done) | (simp_all; omega)))
          | refine e_hit rfl ?_ | refine e_miss rfl ?_
          | with_reducible refine ⟨by kernel_rfl, ?_⟩ | refine x_end rfl ?_ | ((with_reducible refine c_grd ?_); (fail_if_success (refine c_lit true rfl rfl rfl ?_)); (fail_if_success (refine c_lit false rfl rfl rfl ?_)); refine c_split rfl rfl (fun _ => ?_) (fun _ => ?_)))
        all_goals rfl
      by_cases q4 : 100 < dg.length
      · refine r_fun Tryd.func4 rfl Tryd.ntmps4 Tryd.results4 rfl rfl fun X hL hX => ?_
        repeat' (first
          | refine r_call (f := 12) rfl rfl Tryd.call12 rfl b1 ?_ | refine r_gcall (f := 12) rfl rfl rfl rfl Tryd.call12 rfl b2 ?_ | refine r_call (f := 12) rfl rfl Tryd.call12 rfl b2 ?_ | refine r_call (f := 7) rfl rfl Tryd.call7 rfl hl ?_
          | with_reducible (first | refine t_seq ?_ | refine t_region ?_ | refine c_nil ?_ | refine n_then ?_ | refine t_ret ?_ | refine t_skip ?_ | refine t_exit ?_ | refine t_block ?_ | refine n_block ?_ | refine e_then ?_ | refine x_then ?_ | refine x_block ?_ | refine t_draw ?_)
          | refine r_val rfl rfl True.intro ?_ | refine r_gskip rfl rfl rfl ?_ | refine r_gskip2 rfl rfl rfl ?_ | refine r_gval rfl rfl rfl rfl True.intro ?_
          | refine t_true rfl ?_ | refine t_false rfl ?_
          | ((first | refine t_cond_d rfl ?_ ?_ | refine t_cond_i rfl ?_ ?_ | refine t_cond_j rfl ?_ ?_ | refine t_cond_s rfl ?_ ?_ | refine t_cond_n rfl ?_ ?_ | refine t_cond rfl ?_ ?_ | refine c_split_d rfl rfl ?_ ?_ | refine c_split_i rfl rfl ?_ ?_ | refine c_split_j rfl rfl ?_ ?_ | refine c_split_s rfl rfl ?_ ?_ | refine c_split_n rfl rfl ?_ ?_) <;> intro <;> try (first | (rename_i hz; exact Bool.noConfusion (show true = false from hz)) | (rename_i hz; exact Bool.noConfusion (show false = true from hz)) | (exfalso; omega)))
          | ((first | refine r_val rfl rfl ?_ ?_ | refine r_gval rfl rfl rfl rfl ?_ ?_ | refine r_obj rfl rfl ?_ ?_ | refine r_sto rfl ?_ ?_ | refine r_gobj rfl rfl rfl rfl ?_ ?_); focus (first | omega | exact Nat.le_of_ble_eq_true rfl | ((repeat first | rw [wrap_u8] | rw [IntKind.wrap_i64] | rw [IntKind.wrap_i32] | rw [wrap_u32'] | rw [wrap_u64']); (repeat' refine And.intro ?_ ?_) <;> omega) | ((repeat' refine And.intro ?_ ?_) <;> first | omega | rfl | exact Nat.le_refl _ | exact Nat.le_of_ble_eq_true rfl | exact bytesF_one _) | (simp_all; done) | (simp_all; omega)))
          | refine e_hit rfl ?_ | refine e_miss rfl ?_
          | with_reducible refine ⟨by kernel_rfl, ?_⟩ | refine x_end rfl ?_ | ((with_reducible refine c_grd ?_); (fail_if_success (refine c_lit true rfl rfl rfl ?_)); (fail_if_success (refine c_lit false rfl rfl rfl ?_)); refine c_split rfl rfl (fun _ => ?_) (fun _ => ?_)))
        all_goals rfl
      have hwx := jw_jb x
      have g1 := get_jctr x key (by omega)
      have g2 := rget_jctr x key (by omega)
      have hz := getJ_w x key
      generalize getJ x key = r at *
      obtain ⟨z, ok⟩ := r
      dsimp only at hz
      unfold getD at g1 g2
      dsimp only at g1 g2
      have s1 := same_jctr _ x y (Nat.lt_succ_self _) (by omega)
      have s2 := rsame_ctr _ x y (Nat.lt_succ_self _) (by omega)
      have s3 := same_jctr _ x x (Nat.lt_succ_self _) (by omega)
      have s4 := rsame_ctr _ z z (Nat.lt_succ_self _) (by omega)
      have o1 := of_jctr key
      have o2 := numJ_ctr ng dg ex
      have s5 := Ctr.weak2 (rsame_ctr _ (.mk 3 false false [] 0 key [] []) (.mk 3 false false [] 0 key [] []) (Nat.lt_succ_self _) (by show 1 ≤ 4194304; omega)) (.refl _) (jP_lit 3 false false [] 0 key)
      have s6 := Ctr.weak2 (rsame_ctr _ (.mk 2 false ng dg ex [] [] []) (.mk 2 false ng dg ex [] [] []) (Nat.lt_succ_self _) (by show 1 ≤ 4194304; omega)) (.refl _) (jP_lit 2 false ng dg ex [])
      rw [sameJ_refl] at s3 s4 s5 s6
      generalize sameJ x y = sb at *
      refine r_fun Tryd.func4 rfl Tryd.ntmps4 Tryd.results4 rfl rfl fun X hL hX => ?_
      cases sb <;> cases ok
      all_goals
        repeat' (first
          | refine r_call (f := 12) rfl rfl Tryd.call12 rfl b1 ?_ | refine r_gcall (f := 12) rfl rfl rfl rfl Tryd.call12 rfl b2 ?_ | refine r_call (f := 12) rfl rfl Tryd.call12 rfl b2 ?_ | refine r_call (f := 7) rfl rfl Tryd.call7 rfl hl ?_ | refine r_gcall (f := 7) rfl rfl rfl rfl Tryd.call7 rfl hl ?_ | refine r_call (f := 13) rfl rfl Tryd.call13 rfl g1 ?_ | refine r_call (f := 14) rfl rfl Tryd.call14 rfl g2 ?_ | refine r_call (f := 15) rfl rfl Tryd.call15 rfl s1 ?_ | refine r_call (f := 10) rfl rfl Tryd.call10 rfl s2 ?_ | refine r_gcall (f := 15) rfl rfl rfl rfl Tryd.call15 rfl s3 ?_ | refine r_gcall (f := 10) rfl rfl rfl rfl Tryd.call10 rfl s4 ?_ | refine r_gcall (f := 16) rfl rfl rfl rfl Tryd.call16 rfl o1 ?_ | refine r_gcall (f := 17) rfl rfl rfl rfl Tryd.call17 rfl o2 ?_ | refine r_gcall (f := 10) rfl rfl rfl rfl Tryd.call10 rfl s5 ?_ | refine r_gcall (f := 10) rfl rfl rfl rfl Tryd.call10 rfl s6 ?_ | refine r_call (f := 15) rfl rfl Tryd.call15 rfl s3 ?_ | refine r_call (f := 10) rfl rfl Tryd.call10 rfl s4 ?_ | refine r_call (f := 16) rfl rfl Tryd.call16 rfl o1 ?_ | refine r_call (f := 17) rfl rfl Tryd.call17 rfl o2 ?_ | refine r_call (f := 10) rfl rfl Tryd.call10 rfl s5 ?_ | refine r_call (f := 10) rfl rfl Tryd.call10 rfl s6 ?_
          | with_reducible (first | refine t_seq ?_ | refine t_region ?_ | refine c_nil ?_ | refine n_then ?_ | refine t_ret ?_ | refine t_skip ?_ | refine t_exit ?_ | refine t_block ?_ | refine n_block ?_ | refine e_then ?_ | refine x_then ?_ | refine x_block ?_ | refine t_draw ?_)
          | refine r_val rfl rfl True.intro ?_ | refine r_gskip rfl rfl rfl ?_ | refine r_gskip2 rfl rfl rfl ?_ | refine r_gval rfl rfl rfl rfl True.intro ?_
          | refine t_true rfl ?_ | refine t_false rfl ?_
          | ((first | refine t_cond_d rfl ?_ ?_ | refine t_cond_i rfl ?_ ?_ | refine t_cond_j rfl ?_ ?_ | refine t_cond_s rfl ?_ ?_ | refine t_cond_n rfl ?_ ?_ | refine t_cond rfl ?_ ?_ | refine c_split_d rfl rfl ?_ ?_ | refine c_split_i rfl rfl ?_ ?_ | refine c_split_j rfl rfl ?_ ?_ | refine c_split_s rfl rfl ?_ ?_ | refine c_split_n rfl rfl ?_ ?_) <;> intro <;> try (first | (rename_i hz; exact Bool.noConfusion (show true = false from hz)) | (rename_i hz; exact Bool.noConfusion (show false = true from hz)) | (exfalso; omega)))
          | ((first | refine r_val rfl rfl ?_ ?_ | refine r_gval rfl rfl rfl rfl ?_ ?_ | refine r_obj rfl rfl ?_ ?_ | refine r_sto rfl ?_ ?_ | refine r_gobj rfl rfl rfl rfl ?_ ?_); focus (first | omega | exact Nat.le_of_ble_eq_true rfl | ((repeat first | rw [wrap_u8] | rw [IntKind.wrap_i64] | rw [IntKind.wrap_i32] | rw [wrap_u32'] | rw [wrap_u64']); (repeat' refine And.intro ?_ ?_) <;> omega) | ((repeat' refine And.intro ?_ ?_) <;> first | omega | rfl | exact Nat.le_refl _ | exact Nat.le_of_ble_eq_true rfl | exact bytesF_one _) | (simp_all; done) | (simp_all; omega)))
          | refine e_hit rfl ?_ | refine e_miss rfl ?_
          | with_reducible refine ⟨by kernel_rfl, ?_⟩ | refine x_end rfl ?_ | ((with_reducible refine c_grd ?_); (fail_if_success (refine c_lit true rfl rfl rfl ?_)); (fail_if_success (refine c_lit false rfl rfl rfl ?_)); refine c_split rfl rfl (fun _ => ?_) (fun _ => ?_)))
        all_goals first | rfl | (exfalso; rename_i q; exact q rfl) | (exfalso; simp_all; done)

end Go.Proofs.YtbegohehjkjnmaaDoor.Flow

/- FLOW, PART RB: arguments of a type that holds itself: readings told for data of so much bulk. -/
namespace Go.Proofs.YtbegohehjkjnmaaDoor.Flow
open Go.ChangeShapes Go.WideShapes Go.ChangeAt Go.RowKit

set_option maxRecDepth 100000
variable {H : Type} {enc : TypeId × Value → H} {W : World}

/-- What stands in memory for a type's data of a kind. -/
def TellsP (enc : TypeId × Value → H) (W : World) (P : DataW H → Prop) (t z : Nat) (G : DataW H → List D) : Prop :=
  ∀ fuel cs x, P x.1 → DataW.trod enc Tryd.prog W 0 (fun _ => true) true fuel t cs = some x → cs.length = z ∧ (G x.1).length = z ∧ (G x.1).all D.plain = true ∧ ∀ j, j < z → Rel (allOf W) W noRho ((G x.1).getD j .any) (cs.getD j undef)
theorem Tells.toP {t z : Nat} {G : DataW H → List D} {P : DataW H → Prop} (h : Tells enc W t z G) : TellsP enc W P t z G := fun fuel cs x _ hx => h fuel cs x hx

theorem tells_sliceP {t e z : Nat} {G : DataW H → List D} {P Q : DataW H → Prop} (hPQ : ∀ d, P d → ∀ y ∈ kids d, Q y) (ht : Tryd.prog.underlying t = some (.slice e)) (hc : Tryd.prog.cellsOf e = z) (hz : 0 < z) (hG : TellsP enc W Q e z G) :
    TellsP enc W P t 1 (fun d => [.sl z (kids d).length (fun i => G ((kids d).getD i .nil))]) := fun fuel cs x hp h => by
  rcases DataW.trod_slice ht h with ⟨rfl, rfl⟩ | ⟨a, len, cap, elems, rest, n, rfl, rfl, rfl, hb, hl, hm, hlen, hel, _, _⟩
  · refine ⟨rfl, rfl, rfl, fun j hj => ?_⟩
    obtain rfl : j = 0 := by omega
    exact .sl _ z 0 _ none 0 (fun _ _ => undef) (Nat.le_refl _) (by unfold maxLen; omega) (fun i hi => by omega) (fun i j hi => by omega) (fun i j hi => by omega)
  · refine ⟨rfl, rfl, rfl, fun j hj => ?_⟩
    obtain rfl : j = 0 := by omega
    have each : ∀ i, i < len → ∃ cs' y, elems[i]? = some y ∧ W.cells? 0 (a.add (i * z)) z = some cs' ∧ DataW.trod enc Tryd.prog W 0 (fun _ => true) true n e cs' = some y := fun i hi => by
      have h1 := hel i hi
      have hi' : i < elems.length := by omega
      rw [hc, List.getElem?_eq_getElem hi'] at h1
      cases hcs : W.cells? 0 (a.add (i * z)) z with
      | none => rw [hcs] at h1; cases h1
      | some cs' =>
        rw [hcs] at h1
        exact ⟨cs', elems[i], List.getElem?_eq_getElem hi', rfl, h1⟩
    have hlen' : (elems.map (·.1)).length = len := by simp [hlen]
    have hk : ∀ i y, elems[i]? = some y → (elems.map (·.1)).getD i .nil = y.1 := fun i y hy => by
      simp [List.getD_eq_getElem?_getD, hy]
    have hspot : 0 < len → a.spot = none := fun h0 => by
      obtain ⟨cs', y, _, h2, h3⟩ := each 0 h0
      obtain ⟨_, hn, h4⟩ := World.cells?_some h2
      have h5 := h4 0 hz
      have hlt : 0 < cs'.length := by omega
      rw [List.getElem?_eq_getElem hlt] at h5
      cases hsp : a.spot with
      | none => rfl
      | some k =>
        exfalso
        simp only [Nat.zero_mul, Addr.add, if_true, World.cell?, hsp, Option.isSome_some] at h5
        split at h5 <;> simp at h5
    have hcl : ∀ i j, i < len → j < z → ∃ cs' y v, elems[i]? = some y ∧ DataW.trod enc Tryd.prog W 0 (fun _ => true) true n e cs' = some y ∧ cs'[j]? = some v ∧ W.cell? ⟨a.block, a.off + i * z + j, none⟩ = some v := fun i j hi hj => by
      obtain ⟨cs', y, h1, h2, h3⟩ := each i hi
      obtain ⟨_, hn, h4⟩ := World.cells?_some h2
      have h5 := h4 j hj
      have hlt : j < cs'.length := by omega
      rw [List.getElem?_eq_getElem hlt] at h5
      refine ⟨cs', y, cs'[j], h1, h3, List.getElem?_eq_getElem hlt, ?_⟩
      rw [← h5]
      have hsp := hspot (by omega)
      congr 1
      obtain ⟨ab, ao, asp⟩ := a
      simp only at hsp
      subst hsp
      simp only [Addr.add]
      split <;> split <;> simp_all <;> omega
    have hcell := fun i j hi hj => hcl i j hi hj
    show Rel (allOf W) W noRho (.sl z (elems.map (·.1)).length (fun i => G ((elems.map (·.1)).getD i .nil))) (.slice (some a) len cap)
    rw [hlen']
    refine .sl _ z len _ (some a) cap (fun i j => (W.cell? ⟨a.block, a.off + i * z + j, none⟩).getD undef) (by omega) hm (fun i hi => ?_) (fun i j hi hj => ?_) (fun i j hi hj => ?_)
    · obtain ⟨cs', y, h1, _, h3⟩ := each i hi
      rw [hk i y h1]
      have := hG _ _ _ (hPQ _ hp _ (List.mem_map.2 ⟨y, List.mem_of_getElem? h1, rfl⟩)) h3
      exact ⟨this.2.1, this.2.2.1⟩
    · obtain ⟨cs', y, v, _, _, _, h4⟩ := hcl i j hi hj
      refine ⟨a.block, a.off, ?_, ?_, by rw [h4]; rfl⟩
      · have hsp := hspot (by omega)
        obtain ⟨ab, ao, asp⟩ := a
        simp only at hsp
        subst hsp
        rfl
      · show a.block < W.heap.size
        unfold World.cell? at h4
        split at h4
        · rename_i hh
          exact (Array.getElem?_eq_some_iff.1 hh).1
        · cases h4
    · obtain ⟨cs', y, v, h1, h2, h3, h4⟩ := hcl i j hi hj
      rw [hk i y h1, h4]
      have := (hG _ _ _ (hPQ _ hp _ (List.mem_map.2 ⟨y, List.mem_of_getElem? h1, rfl⟩)) h2).2.2.2 j hj
      rw [List.getD_eq_getElem?_getD (l := cs'), h3] at this
      exact this

/-- A struct's fields, one behind the other. -/
inductive TellsFP (enc : TypeId × Value → H) (W : World) (Q : DataW H → Prop) : List Field → Nat → List (DataW H → List D) → Nat → Prop
  | nil (off : Nat) : TellsFP enc W Q [] off [] off
  | cons (f : Field) (fs : List Field) (off z N : Nat) (G : DataW H → List D) (Gs : List (DataW H → List D)) (ho : f.offset = off) (hc : Tryd.prog.cellsOf f.type = z) (hG : TellsP enc W Q f.type z G) (h : TellsFP enc W Q fs (off + z) Gs N) : TellsFP enc W Q (f :: fs) off (G :: Gs) N

theorem tellsF_relP {Q : DataW H → Prop} {n : Nat} {cs : List Value} : ∀ {fs : List Field} {off N : Nat} {Gs : List (DataW H → List D)} {xs : List (DataW H × List MemPlace)}, TellsFP enc W Q fs off Gs N → cs.length = N → xs.length = fs.length →
    (∀ x ∈ xs, Q x.1) → (∀ (i : Nat) (f : Field), fs[i]? = some f → DataW.trod enc Tryd.prog W 0 (fun _ => true) true n f.type ((cs.drop f.offset).take (Tryd.prog.cellsOf f.type)) = xs[i]?) →
    (catG Gs (xs.map (·.1))).length + off = N ∧ (catG Gs (xs.map (·.1))).all D.plain = true ∧ ∀ j, off + j < N → Rel (allOf W) W noRho ((catG Gs (xs.map (·.1))).getD j .any) (cs.getD (off + j) undef)
  | [], off, N, Gs, xs, h, hN, hn, hq, hx => by
    cases h
    exact ⟨by simp [catG], rfl, fun j hj => by omega⟩
  | f :: fs, off, N, Gs, xs, h, hN, hn, hq, hx => by
    cases h with
    | cons _ _ _ z _ G Gs ho hc hG h =>
      match xs, hn with
      | x :: xs, hn =>
        have h0 := hx 0 f rfl
        rw [ho, hc] at h0
        obtain ⟨k1, k2, k3, k4⟩ := hG _ _ _ (hq x (by simp)) h0
        obtain ⟨i1, i2, i3⟩ := tellsF_relP (xs := xs) h hN (by simpa using hn) (fun y hy => hq y (by simp [hy])) (fun i g hg => hx (i + 1) g hg)
        simp only [List.map_cons, catG, List.getD_cons_zero, List.drop_succ_cons, List.drop_zero]
        refine ⟨by rw [List.length_append]; omega, by rw [List.all_append, k3, i2]; rfl, fun j hj => ?_⟩
        by_cases hjz : j < z
        · have e1 : (G x.1 ++ catG Gs (xs.map (·.1))).getD j .any = (G x.1).getD j .any := by
            simp [List.getD_eq_getElem?_getD, List.getElem?_append_left (show j < (G x.1).length by omega)]
          rw [e1]
          have := k4 j hjz
          have e2 : ((cs.drop off).take z).getD j undef = cs.getD (off + j) undef := by
            simp [List.getD_eq_getElem?_getD, hjz]
          rwa [e2] at this
        · have e1 : (G x.1 ++ catG Gs (xs.map (·.1))).getD j .any = (catG Gs (xs.map (·.1))).getD (j - z) .any := by
            simp only [List.getD_eq_getElem?_getD]
            rw [List.getElem?_append_right (by omega), k2]
          rw [e1]
          have := i3 (j - z) (by omega)
          rwa [show off + z + (j - z) = off + j by omega] at this

theorem tells_structP {P Q : DataW H → Prop} (hPQ : ∀ d, P d → ∀ y ∈ kids d, Q y) {t z : Nat} {fs : Array Field} {l : List Field} {Gs : List (DataW H → List D)} (ht : Tryd.prog.underlying t = some (.struct fs)) (hl : fs.toList = l) (hc : Tryd.prog.cellsOf t = z) (h : TellsFP enc W Q l 0 Gs z) :
    TellsP enc W P t z (fun d => catG Gs (kids d)) := fun fuel cs x hp hx => by
  obtain ⟨xs, n, rfl, rfl, hlen, hn, hf⟩ := DataW.trod_struct ht hx
  rw [hc] at hlen
  have := tellsF_relP (n := n) (xs := xs) h hlen (by rw [hn, ← hl]; simp) (fun y hy => hPQ _ hp _ (List.mem_map.2 ⟨y, hy, rfl⟩)) (fun i f hi => hf i f (by rw [← hl] at hi; simpa using hi))
  refine ⟨hlen, by simpa [kids] using this.1, this.2.1, fun j hj => by simpa [kids] using this.2.2 j (by omega)⟩


theorem arg_structP {base : Nat} {t z : Nat} {fs : Array Field} {v : Value} {d : DataW H} {ps : List MemPlace} {G : DataW H → List D} {P : DataW H → Prop} (ht : Tryd.prog.underlying t = some (.struct fs)) (hG : TellsP enc W P t z G) (hp : P d)
    (hv : Value.okWide Tryd.prog W .any base t v) (h : DataW.Trod enc Tryd.prog W 0 (fun _ => true) true t v d ps) : Rel (allOf W) W noRho (.ag (G d)) v := by
  obtain ⟨cs, rfl, hs⟩ := okWide_struct ht hv
  obtain ⟨fuel, hf⟩ := h
  obtain ⟨h1, h2, h3, h4⟩ := hG _ _ _ hp hf
  replace h2 : (G d).length = z := h2
  have h1' : cs.size = z := by simpa [Value.cells] using h1
  refine .ag _ _ cs (by omega) (fun j hj => ?_)
  have := h4 j (by omega)
  simpa [Value.cells, Array.getD_eq_getD_getElem?, List.getD_eq_getElem?_getD] using this
theorem bulk_kid {d y : DataW H} (h : y ∈ kids d) : Rows.uptoBulk y < Rows.uptoBulk d := by
  have h1 := bulk_mem h
  cases d <;> simp [kids] at h
  all_goals
    simp only [kids] at h1
    simp only [Rows.uptoBulk]
    omega

end Go.Proofs.YtbegohehjkjnmaaDoor.Flow

/- JSON: a value among a row's arguments. -/
namespace Go.Proofs.YtbegohehjkjnmaaDoor.Flow
open Go

section
variable {H : Type} {enc : TypeId × Value → H} {W : World}
abbrev jk0 (l : List (DataW H)) : DataW H := l.getD 0 .nil
def decC : DataW H → List D := fun d => catG [fun d => [.b (boolOf d)], fun d => [.s (strOf d)], fun d => [.i .i64 (intOf d)]] (kids d)
/-- The value that data tells, so deep. -/
def jOf : Nat → DataW H → J
  | 0, _ => j0
  | n + 1, d => .mk (intOf (jk0 (kids d))) (boolOf (jk0 ((kids d).drop 1))) (boolOf (jk0 (kids (jk0 (((kids d).drop 1).drop 1))))) (strOf (jk0 ((kids (jk0 (((kids d).drop 1).drop 1))).drop 1))) (intOf (jk0 (((kids (jk0 (((kids d).drop 1).drop 1))).drop 1).drop 1)))
    (strOf (jk0 ((((kids d).drop 1).drop 1).drop 1))) ((kids (jk0 (((((kids d).drop 1).drop 1).drop 1).drop 1))).map (jOf n)) ((kids (jk0 ((((((kids d).drop 1).drop 1).drop 1).drop 1).drop 1))).map strOf)

theorem tells_decJ : Tells enc W 24 3 (decC (H := H)) :=
  tells_struct Tryd.underlying24 rfl (by kernel_rfl) (.cons _ _ 0 1 3 _ _ rfl (by kernel_rfl) (tells_bool Tryd.underlying4) (.cons _ _ 1 1 3 _ _ rfl (by kernel_rfl) (tells_str Tryd.underlying9) (.cons _ _ 2 1 3 _ _ rfl (by kernel_rfl) (tells_int Tryd.underlying3) (.nil 3))))

theorem tx_weak (l : List (DataW H)) : Weak (.sl 1 l.length (fun i => [.s (strOf (l.getD i .nil))])) (.sl 1 (l.map strOf).length (txF (l.map strOf))) := by
  rw [List.length_map]
  refine .sl _ _ _ _ (fun i hi => ⟨rfl, rfl⟩) fun i j hi hj => ?_
  have e : (l.map strOf).getD i [] = strOf (l.getD i .nil) := by simp [List.getD_eq_getElem?_getD, hi]
  unfold txF
  rw [e]
  exact .refl _
theorem js_weak (n : Nat) (l : List (DataW H)) : Weak (.sl 8 l.length (fun i => jP (jOf n (l.getD i .nil)))) (.sl 8 (l.map (jOf n)).length (jF (l.map (jOf n)))) := by
  have e : ∀ i, i < l.length → jF (l.map (jOf n)) i = jP (jOf n (l.getD i .nil)) := fun i hi => by
    rw [jF_at (by simpa using hi), jC_P]
    simp [List.getD_eq_getElem?_getD, hi]
  rw [List.length_map]
  refine .sl _ _ _ _ (fun i hi => ?_) fun i j hi hj => ?_
  · rw [e i hi]
    exact ⟨rfl, rfl⟩
  · rw [e i hi]
    exact .refl _

set_option maxRecDepth 100000 in
theorem tells_json : ∀ n, TellsP enc W (fun d => Rows.uptoBulk d < n) 28 8 (fun d : DataW H => jP (jOf n d))
  | 0 => fun fuel cs x hp => absurd hp (Nat.not_lt_zero _)
  | n + 1 => fun fuel cs x hp hx => by
    have kid : ∀ (m : Nat) (d : DataW H), Rows.uptoBulk d < m + 1 → ∀ y ∈ kids d, Rows.uptoBulk y < m := fun m d h y hy => by
      have := bulk_kid hy
      omega
    have base := tells_structP (enc := enc) (W := W) (P := fun d => Rows.uptoBulk d < n + 1) (Q := fun d => Rows.uptoBulk d < n) (kid n) Tryd.underlying28 rfl (by kernel_rfl)
      (.cons _ _ 0 1 8 _ _ rfl (by kernel_rfl) (tells_int Tryd.underlying3).toP (.cons _ _ 1 1 8 _ _ rfl (by kernel_rfl) (tells_bool Tryd.underlying4).toP (.cons _ _ 2 3 8 _ _ rfl (by kernel_rfl) tells_decJ.toP (.cons _ _ 5 1 8 _ _ rfl (by kernel_rfl) (tells_str Tryd.underlying9).toP
        (.cons _ _ 6 1 8 _ _ rfl (by kernel_rfl) (tells_sliceP (P := fun d => Rows.uptoBulk d < n) (Q := fun d => Rows.uptoBulk d < n) (fun d h y hy => Nat.lt_trans (bulk_kid hy) h) Tryd.underlying25 (by kernel_rfl) (by omega) (tells_json n))
          (.cons _ _ 7 1 8 _ _ rfl (by kernel_rfl) (tells_slice Tryd.underlying26 (by kernel_rfl) (by omega) (tells_str Tryd.underlying9)).toP (.nil 8)))))))
    obtain ⟨h1, h2, h3, h4⟩ := base fuel cs x hp hx
    refine ⟨h1, rfl, rfl, fun j hj => ?_⟩
    match j, hj with
    | 0, _ => exact h4 0 (by omega)
    | 1, _ => exact h4 1 (by omega)
    | 2, _ => exact h4 2 (by omega)
    | 3, _ => exact h4 3 (by omega)
    | 4, _ => exact h4 4 (by omega)
    | 5, _ => exact h4 5 (by omega)
    | 6, _ => exact (h4 6 (by omega)).weak (js_weak n _)
    | 7, _ => exact (h4 7 (by omega)).weak (tx_weak _)

theorem str_in (l : List (DataW H)) : (strOf (jk0 l)).length + Rows.uptoBulkAll (l.drop 1) ≤ Rows.uptoBulkAll l := by
  cases l with
  | nil => exact Nat.le_refl _
  | cons x r =>
    have := bulk_str x
    simp only [List.drop_succ_cons, List.drop_zero, Rows.uptoBulkAll]
    show (strOf x).length + _ ≤ _
    omega
theorem any_in (l : List (DataW H)) : Rows.uptoBulkAll (kids (jk0 l)) + Rows.uptoBulkAll (l.drop 1) ≤ Rows.uptoBulkAll l := by
  cases l with
  | nil => exact Nat.le_refl _
  | cons x r =>
    have := bulk_kids x
    simp only [List.drop_succ_cons, List.drop_zero, Rows.uptoBulkAll]
    show Rows.uptoBulkAll (kids x) + _ ≤ _
    omega
theorem drop_in (l : List (DataW H)) : Rows.uptoBulkAll (l.drop 1) ≤ Rows.uptoBulkAll l := by
  have := any_in l
  omega
theorem str1 (d : DataW H) : (strOf d).length + 1 ≤ Rows.uptoBulk d := by
  unfold strOf
  split
  · simp [Rows.uptoBulk]
  · have := bulk_one d
    simpa using this
theorem tx_in : ∀ l : List (DataW H), txL (l.map strOf) ≤ Rows.uptoBulkAll l
  | [] => Nat.le_refl _
  | x :: r => by
    have := tx_in r
    have := str1 x
    simp only [List.map_cons, txL, Rows.uptoBulkAll]
    omega
theorem bulk_kids1 (d : DataW H) : 1 + Rows.uptoBulkAll (kids d) ≤ Rows.uptoBulk d := by
  have h1 := bulk_one d
  cases d <;> simp only [kids, Rows.uptoBulk, Rows.uptoBulkAll] at h1 ⊢ <;> omega
theorem jb_of : ∀ (n : Nat) (d : DataW H), jb (jOf n d) ≤ Rows.uptoBulk d
  | 0, d => bulk_one d
  | n + 1, d => by
    have each : ∀ l : List (DataW H), jbL (l.map (jOf n)) ≤ Rows.uptoBulkAll l := by
      intro l
      induction l with
      | nil => exact Nat.le_refl _
      | cons x r ih =>
        have := jb_of n x
        simp only [List.map_cons, jbL, Rows.uptoBulkAll]
        omega
    have hd := bulk_kids1 d
    unfold jOf
    rw [jb]
    generalize kids d = l at *
    have a0 := drop_in l
    generalize l.drop 1 = l1 at *
    have a1 := drop_in l1
    generalize l1.drop 1 = l2 at *
    have a2 := any_in l2
    have b1 := str_in ((kids (jk0 l2)).drop 1)
    have b2 := drop_in (kids (jk0 l2))
    generalize l2.drop 1 = l3 at *
    have a3 := str_in l3
    generalize l3.drop 1 = l4 at *
    have a4 := any_in l4
    have b4 := each (kids (jk0 l4))
    generalize l4.drop 1 = l5 at *
    have a5 := any_in l5
    have b5 := tx_in (kids (jk0 l5))
    omega

set_option maxRecDepth 100000 in
theorem arg_json {base : Nat} {v : Value} {d : DataW H} {ps : List MemPlace} (hv : Value.okWide Tryd.prog W .any base 28 v) (h : DataW.Trod enc Tryd.prog W 0 (fun _ => true) true 28 v d ps) :
    Rel (allOf W) W noRho (.ag (jP (jOf (Rows.uptoBulk d + 1) d))) v :=
  arg_structP Tryd.underlying28 (tells_json (Rows.uptoBulk d + 1)) (Nat.lt_succ_self _) hv h
set_option maxRecDepth 100000 in
theorem arg_decJ {base : Nat} {v : Value} {d : DataW H} {ps : List MemPlace} (hv : Value.okWide Tryd.prog W .any base 24 v) (h : DataW.Trod enc Tryd.prog W 0 (fun _ => true) true 24 v d ps) :
    Rel (allOf W) W noRho (.ag (decC d)) v :=
  arg_struct Tryd.underlying24 tells_decJ hv h
set_option maxRecDepth 100000 in
theorem arg_jsonE {base : Nat} {v : Value} {d : DataW H} {ps : List MemPlace} (hv : Value.okWide Tryd.prog W .any base 28 v) (h : DataW.Trod enc Tryd.prog W 0 (fun _ => true) true 28 v d ps) (hb : Rows.uptoBulk d ≤ 1048576) :
    ∃ x : J, jb x ≤ 4194304 ∧ Rel (allOf W) W noRho (.ag (jP x)) v :=
  ⟨_, by have := jb_of (Rows.uptoBulk d + 1) d; omega, arg_json hv h⟩
set_option maxRecDepth 100000 in
theorem arg_decE {base : Nat} {v : Value} {d : DataW H} {ps : List MemPlace} (hv : Value.okWide Tryd.prog W .any base 24 v) (h : DataW.Trod enc Tryd.prog W 0 (fun _ => true) true 24 v d ps) :
    ∃ (n : Bool) (s : List UInt8) (e : Int), Rel (allOf W) W noRho (.ag [.b n, .s s, .i .i64 e]) v :=
  ⟨_, _, _, arg_decJ hv h⟩
end

end Go.Proofs.YtbegohehjkjnmaaDoor.Flow
