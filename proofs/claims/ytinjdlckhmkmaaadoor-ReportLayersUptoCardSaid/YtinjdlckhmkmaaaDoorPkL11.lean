/- The texts R10, R11, R12, R13, R14, Laid, LaidE, one behind the other. -/
import Derived.Test.YtinjdlckhmkmaaaDoorPkL9
import Derived.Test.YtinjdlckhmkmaaaDoorPkL10
import Derived.LaidLaws
import Derived.MakeChecks
import Derived.Lay
/- REPORT: layers as texts, by both. -/
namespace Go.Proofs.YtinjdlckhmkmaaaDoor.Flow
open Go

def ftsF (l : List FeatR) : Nat → List D := fun i => featC (l.getD i dFR)
def layC (name : List UInt8) (ext : Int) (l : List FeatR) : List D := [.s name, .i .i64 ext, .sl 5 l.length (ftsF l)]

def linT (f : FeatR) : List UInt8 := [[32, 32], featT f, [10]].flatten
def layH (name : List UInt8) (ext : Int) (l : List FeatR) : List UInt8 := [[108, 97, 121, 101, 114, 32], quoteL name, [32, 101, 120, 116, 101, 110, 116, 32], Lib.itoa ext, [32, 102, 101, 97, 116, 117, 114, 101, 115, 32], Lib.itoa l.length, [10]].flatten
def layP (name : List UInt8) (ext : Int) (l : List FeatR) (i : Nat) : List UInt8 := layH name ext l ++ ((l.map linT).take i).flatten
def layT (name : List UInt8) (ext : Int) (l : List FeatR) : List UInt8 := layP name ext l l.length

theorem linT_len {f : FeatR} (h : FeatOk f) : (linT f).length ≤ 2147483651 := by
  have := featT_len h
  unfold linT
  simp only [List.flatten_cons, List.flatten_nil, List.length_append, List.length_cons, List.length_nil]
  omega

theorem layH_len {name : List UInt8} {ext : Int} {l : List FeatR} (hn : name.length ≤ 1048576) (he : I64 ext) (hl : l.length ≤ 64) : 1 ≤ (layH name ext l).length ∧ (layH name ext l).length ≤ 6300000 := by
  have h1 := quoteL_len name
  have h2 := itoa_lenI ext he.1 he.2
  have h3 := itoa_lenI l.length (by omega) (by omega)
  unfold layH
  simp only [List.flatten_cons, List.flatten_nil, List.length_append, List.length_cons, List.length_nil]
  omega

theorem flat_len_le (m : Nat) : ∀ xs : List (List UInt8), (∀ x ∈ xs, x.length ≤ m) → xs.flatten.length ≤ xs.length * m
  | [], _ => by simp
  | x :: xs, h => by
    have := flat_len_le m xs fun y hy => h y (by simp [hy])
    have := h x (by simp)
    simp only [List.flatten_cons, List.length_append, List.length_cons, Nat.succ_mul]
    omega

theorem layP_len {name : List UInt8} {ext : Int} {l : List FeatR} (hn : name.length ≤ 1048576) (he : I64 ext) (hl : l.length ≤ 64) (hf : ∀ i, i < l.length → FeatOk (l.getD i dFR)) (i : Nat) : 1 ≤ (layP name ext l i).length ∧ (layP name ext l i).length ≤ 140000000000 := by
  obtain ⟨h0, h1⟩ := layH_len hn he hl
  have h2 := flat_len_le 2147483651 ((l.map linT).take i) fun x hx => by
    obtain ⟨f, hfm, rfl⟩ := List.mem_map.1 (List.mem_of_mem_take hx)
    obtain ⟨j, hj, rfl⟩ := List.getElem_of_mem hfm
    have h2 := hf j hj
    rw [List.getD_eq_getElem?_getD, List.getElem?_eq_getElem hj, Option.getD_some] at h2
    exact linT_len h2
  have h3 : ((l.map linT).take i).length * 2147483651 ≤ 64 * 2147483651 := Nat.mul_le_mul_right _ (by simp; omega)
  unfold layP
  rw [List.length_append]
  omega

theorem layP_zero (name : List UInt8) (ext : Int) (l : List FeatR) : layP name ext l 0 = layH name ext l := by
  unfold layP
  simp

theorem layP_succ (name : List UInt8) (ext : Int) (l : List FeatR) {i : Nat} (hi : i < l.length) : layP name ext l (i + 1) = layP name ext l i ++ linT (l.getD i dFR) := by
  unfold layP
  rw [takeM_snoc linT l dFR hi, List.flatten_append]
  simp

theorem bl_leR {ow : Ow} {m M : List UInt8} (h : leOw ow (bl m)) (e : m = M) : leOw ow (bl M) := e ▸ h

end Go.Proofs.YtinjdlckhmkmaaaDoor.Flow

/- REPORT: layers as texts: the program's function. -/
namespace Go.Proofs.YtinjdlckhmkmaaaDoor.Flow
open Go

set_option maxRecDepth 100000 in
set_option maxHeartbeats 8000000 in
theorem layer_ctr (name : List UInt8) (ext : Int) (l : List FeatR) (hn : name.length ≤ 1048576) (he : I64 ext) (hl : l.length ≤ 64) (hf : ∀ i, i < l.length → FeatOk (l.getD i dFR)) :
    Ctr Tryd.prog 22 [.ag (layC name ext l)] (.s (layT name ext l)) := by
  have hlen := layP_len hn he hl hf
  have c1 := quote_ctr name hn
  have c2 := rnum_ctrR ext he.1 he.2
  have c3 := rnum_ctrR l.length (by omega) (by omega)
  have hH := layH_len hn he hl
  have c4 := rtext_ctrR [[108, 97, 121, 101, 114, 32], quoteL name, [32, 101, 120, 116, 101, 110, 116, 32], Lib.itoa ext, [32, 102, 101, 97, 116, 117, 114, 101, 115, 32], Lib.itoa l.length, [10]] 7 (chF [[108, 97, 121, 101, 114, 32], quoteL name, [32, 101, 120, 116, 101, 110, 116, 32], Lib.itoa ext, [32, 102, 101, 97, 116, 117, 114, 101, 115, 32], Lib.itoa l.length, [10]]) rfl (chunk_tx _) (by simp) (by unfold layH at hH; omega)
  rw [show [[108, 97, 121, 101, 114, 32], quoteL name, [32, 101, 120, 116, 101, 110, 116, 32], Lib.itoa ext, [32, 102, 101, 97, 116, 117, 114, 101, 115, 32], Lib.itoa l.length, [10]].flatten = layH name ext l from rfl] at c4
  have cW := write_ctr [] (layH name ext l) (by simp only [List.length_nil]; omega)
  rw [List.nil_append] at cW
  have e0 := layP_zero name ext l
  rw [← e0] at cW c4
  clear e0 hH
  refine r_fun Tryd.func22 rfl Tryd.ntmps22 Tryd.results22 rfl rfl fun X hL hX => ?_
  repeat' (first
    | refine r_bld rfl rfl rfl ?_ | refine T.adoptB 3 200 5 82 (bytesF []) rfl rfl ?_
    | with_reducible refine t_seq ?_ | with_reducible refine t_region ?_ | with_reducible refine c_nil ?_ | with_reducible refine n_then ?_
    | with_reducible refine t_ret ?_ | with_reducible refine t_skip ?_ | with_reducible refine t_exit ?_ | with_reducible refine t_block ?_
    | with_reducible refine n_block ?_ | with_reducible refine e_then ?_ | with_reducible refine x_then ?_ | with_reducible refine x_block ?_ | with_reducible refine t_draw ?_
    | refine r_val rfl rfl True.intro ?_ | refine r_gskip rfl rfl rfl ?_ | refine r_gskip2 rfl rfl rfl ?_ | refine r_gval rfl rfl rfl rfl True.intro ?_
    | refine t_true rfl ?_ | refine t_false rfl ?_
    | ((first | refine t_cond_d rfl (fun _ => ?_) (fun _ => ?_) | refine t_cond_i rfl (fun _ => ?_) (fun _ => ?_) | refine t_cond_j rfl (fun _ => ?_) (fun _ => ?_) | refine t_cond_s rfl (fun _ => ?_) (fun _ => ?_) | refine t_cond_n rfl (fun _ => ?_) (fun _ => ?_) | refine t_cond rfl (fun _ => ?_) (fun _ => ?_) | refine c_split_d rfl rfl (fun _ => ?_) (fun _ => ?_) | refine c_split_i rfl rfl (fun _ => ?_) (fun _ => ?_) | refine c_split_j rfl rfl (fun _ => ?_) (fun _ => ?_) | refine c_split_s rfl rfl (fun _ => ?_) (fun _ => ?_) | refine c_split_n rfl rfl (fun _ => ?_) (fun _ => ?_)) <;> try (first | (rename_i hz; exact Bool.noConfusion (show true = false from hz)) | (rename_i hz; exact Bool.noConfusion (show false = true from hz)) | (exfalso; omega)))
    | refine r_val rfl rfl (by (first | omega | exact Nat.le_of_ble_eq_true rfl | (simp only [wrap_u8, IntKind.wrap_i64, IntKind.wrap_i32, wrap_u32', wrap_u64', InI]; (repeat' refine And.intro ?_ ?_) <;> omega) | ((repeat' refine And.intro ?_ ?_) <;> first | omega | rfl | exact Nat.le_refl _ | exact Nat.le_of_ble_eq_true rfl | exact bytesF_one _) | (simp_all; done) | (simp_all; omega))) ?_ | refine r_gval rfl rfl rfl rfl (by (first | omega | exact Nat.le_of_ble_eq_true rfl | (simp only [wrap_u8, IntKind.wrap_i64, IntKind.wrap_i32, wrap_u32', wrap_u64', InI]; (repeat' refine And.intro ?_ ?_) <;> omega) | ((repeat' refine And.intro ?_ ?_) <;> first | omega | rfl | exact Nat.le_refl _ | exact Nat.le_of_ble_eq_true rfl | exact bytesF_one _) | (simp_all; done) | (simp_all; omega))) ?_
    | refine r_obj rfl rfl (by (first | omega | exact Nat.le_of_ble_eq_true rfl | (simp only [wrap_u8, IntKind.wrap_i64, IntKind.wrap_i32, wrap_u32', wrap_u64', InI]; (repeat' refine And.intro ?_ ?_) <;> omega) | ((repeat' refine And.intro ?_ ?_) <;> first | omega | rfl | exact Nat.le_refl _ | exact Nat.le_of_ble_eq_true rfl | exact bytesF_one _) | (simp_all; done) | (simp_all; omega))) ?_ | refine r_sto rfl (by (first | omega | exact Nat.le_of_ble_eq_true rfl | (simp only [wrap_u8, IntKind.wrap_i64, IntKind.wrap_i32, wrap_u32', wrap_u64', InI]; (repeat' refine And.intro ?_ ?_) <;> omega) | ((repeat' refine And.intro ?_ ?_) <;> first | omega | rfl | exact Nat.le_refl _ | exact Nat.le_of_ble_eq_true rfl | exact bytesF_one _) | (simp_all; done) | (simp_all; omega))) ?_ | refine r_gobj rfl rfl rfl rfl (by (first | omega | exact Nat.le_of_ble_eq_true rfl | (simp only [wrap_u8, IntKind.wrap_i64, IntKind.wrap_i32, wrap_u32', wrap_u64', InI]; (repeat' refine And.intro ?_ ?_) <;> omega) | ((repeat' refine And.intro ?_ ?_) <;> first | omega | rfl | exact Nat.le_refl _ | exact Nat.le_of_ble_eq_true rfl | exact bytesF_one _) | (simp_all; done) | (simp_all; omega))) ?_
    | refine e_hit rfl ?_ | refine e_miss rfl ?_
    | refine ⟨by kernel_rfl, ?_⟩ | refine r_call (f := 29) rfl rfl Tryd.call29 rfl c1 ?_ | refine r_call (f := 25) rfl rfl Tryd.call25 rfl c2 ?_ | refine r_call (f := 25) rfl rfl Tryd.call25 rfl c3 ?_ | refine r_call (f := 24) rfl rfl Tryd.call24 rfl c4 ?_ | refine r_lend2 (f := 44) 3 200 rfl rfl Tryd.call44 rfl rfl rfl rfl rfl rfl rfl rfl rfl cW ?_ | ((with_reducible refine c_grd ?_); (fail_if_success (refine c_lit true rfl rfl rfl ?_)); (fail_if_success (refine c_lit false rfl rfl rfl ?_)); refine c_split rfl rfl (fun _ => ?_) (fun _ => ?_)))
  refine T.loop hL (fun i : Nat => [(3, .pv 3 0), (20, .sl 5 l.length (ftsF l)), (21, .i .i64 l.length), (22, .i .i64 i)]) (fun i => bl (layP name ext l i)) (fun i => i ≤ l.length) (fun i => l.length - i) 0
    (Nat.zero_le _) ⟨⟨rfl, rfl, rfl, rfl, trivial⟩, ⟨.inl rfl, rfl, trivial⟩, rfl, by rw [hX]; intro k hk; cases hk⟩ ?_
  intro i g1
  obtain ⟨l1, l2⟩ := hlen i
  by_cases hi : i < l.length
  · have d1 := feature_ctr _ (hf i hi)
    have l3 := linT_len (hf i hi)
    have d2 := rtext_ctrR [[32, 32], featT (l.getD i dFR), [10]] 3 (chF [[32, 32], featT (l.getD i dFR), [10]]) rfl (chunk_tx _) (by simp) (by unfold linT at l3; omega)
    rw [show [[32, 32], featT (l.getD i dFR), [10]].flatten = linT (l.getD i dFR) from rfl] at d2
    have d3 := write_ctr (layP name ext l i) (linT (l.getD i dFR)) (by omega)
    have e := (layP_succ name ext l hi).symm
    generalize linT (l.getD i dFR) = R at *
    generalize featT (l.getD i dFR) = R0 at *
    repeat' (first
      | with_reducible refine t_seq ?_ | with_reducible refine t_region ?_ | with_reducible refine c_nil ?_ | with_reducible refine n_then ?_
      | with_reducible refine t_ret ?_ | with_reducible refine t_skip ?_ | with_reducible refine t_exit ?_ | with_reducible refine t_block ?_
      | with_reducible refine n_block ?_ | with_reducible refine e_then ?_ | with_reducible refine x_then ?_ | with_reducible refine x_block ?_ | with_reducible refine t_draw ?_
      | refine r_val rfl rfl True.intro ?_ | refine r_gskip rfl rfl rfl ?_ | refine r_gskip2 rfl rfl rfl ?_ | refine r_gval rfl rfl rfl rfl True.intro ?_
      | refine t_true rfl ?_ | refine t_false rfl ?_
      | ((first | refine t_cond_d rfl (fun _ => ?_) (fun _ => ?_) | refine t_cond_i rfl (fun _ => ?_) (fun _ => ?_) | refine t_cond_j rfl (fun _ => ?_) (fun _ => ?_) | refine t_cond_s rfl (fun _ => ?_) (fun _ => ?_) | refine t_cond_n rfl (fun _ => ?_) (fun _ => ?_) | refine t_cond rfl (fun _ => ?_) (fun _ => ?_) | refine c_split_d rfl rfl (fun _ => ?_) (fun _ => ?_) | refine c_split_i rfl rfl (fun _ => ?_) (fun _ => ?_) | refine c_split_j rfl rfl (fun _ => ?_) (fun _ => ?_) | refine c_split_s rfl rfl (fun _ => ?_) (fun _ => ?_) | refine c_split_n rfl rfl (fun _ => ?_) (fun _ => ?_)) <;> try (first | (rename_i hz; exact Bool.noConfusion (show true = false from hz)) | (rename_i hz; exact Bool.noConfusion (show false = true from hz)) | (exfalso; omega)))
      | refine r_val rfl rfl (by (first | omega | exact Nat.le_of_ble_eq_true rfl | (simp only [wrap_u8, IntKind.wrap_i64, IntKind.wrap_i32, wrap_u32', wrap_u64', InI]; (repeat' refine And.intro ?_ ?_) <;> omega) | ((repeat' refine And.intro ?_ ?_) <;> first | omega | rfl | exact Nat.le_refl _ | exact Nat.le_of_ble_eq_true rfl | exact bytesF_one _) | (simp_all; done) | (simp_all; omega))) ?_ | refine r_gval rfl rfl rfl rfl (by (first | omega | exact Nat.le_of_ble_eq_true rfl | (simp only [wrap_u8, IntKind.wrap_i64, IntKind.wrap_i32, wrap_u32', wrap_u64', InI]; (repeat' refine And.intro ?_ ?_) <;> omega) | ((repeat' refine And.intro ?_ ?_) <;> first | omega | rfl | exact Nat.le_refl _ | exact Nat.le_of_ble_eq_true rfl | exact bytesF_one _) | (simp_all; done) | (simp_all; omega))) ?_
      | refine r_obj rfl rfl (by (first | omega | exact Nat.le_of_ble_eq_true rfl | (simp only [wrap_u8, IntKind.wrap_i64, IntKind.wrap_i32, wrap_u32', wrap_u64', InI]; (repeat' refine And.intro ?_ ?_) <;> omega) | ((repeat' refine And.intro ?_ ?_) <;> first | omega | rfl | exact Nat.le_refl _ | exact Nat.le_of_ble_eq_true rfl | exact bytesF_one _) | (simp_all; done) | (simp_all; omega))) ?_ | refine r_sto rfl (by (first | omega | exact Nat.le_of_ble_eq_true rfl | (simp only [wrap_u8, IntKind.wrap_i64, IntKind.wrap_i32, wrap_u32', wrap_u64', InI]; (repeat' refine And.intro ?_ ?_) <;> omega) | ((repeat' refine And.intro ?_ ?_) <;> first | omega | rfl | exact Nat.le_refl _ | exact Nat.le_of_ble_eq_true rfl | exact bytesF_one _) | (simp_all; done) | (simp_all; omega))) ?_ | refine r_gobj rfl rfl rfl rfl (by (first | omega | exact Nat.le_of_ble_eq_true rfl | (simp only [wrap_u8, IntKind.wrap_i64, IntKind.wrap_i32, wrap_u32', wrap_u64', InI]; (repeat' refine And.intro ?_ ?_) <;> omega) | ((repeat' refine And.intro ?_ ?_) <;> first | omega | rfl | exact Nat.le_refl _ | exact Nat.le_of_ble_eq_true rfl | exact bytesF_one _) | (simp_all; done) | (simp_all; omega))) ?_
      | refine e_hit rfl ?_ | refine e_miss rfl ?_
      | refine ⟨by kernel_rfl, ?_⟩ | refine x_end rfl ?_ | refine r_call (f := 20) rfl rfl Tryd.call20 rfl d1 ?_ | refine r_call (f := 24) rfl rfl Tryd.call24 rfl d2 ?_ | refine r_lend2 (f := 44) 3 200 rfl rfl Tryd.call44 rfl rfl rfl rfl rfl rfl rfl rfl rfl d3 ?_ | ((with_reducible refine c_grd ?_); (fail_if_success (refine c_lit true rfl rfl rfl ?_)); (fail_if_success (refine c_lit false rfl rfl rfl ?_)); refine c_split rfl rfl (fun _ => ?_) (fun _ => ?_)))
    all_goals exact ⟨i + 1, by omega, by omega, ⟨rfl, rfl, rfl, rfl, trivial⟩, bl_leR ⟨.inl rfl, rfl, trivial⟩ e, rfl, by rw [hX]; intro k hk; cases hk⟩
  · obtain rfl : i = l.length := by omega
    have cS := string_ctr (layP name ext l l.length) (by omega) (by omega)
    repeat' (first
      | with_reducible refine t_seq ?_ | with_reducible refine t_region ?_ | with_reducible refine c_nil ?_ | with_reducible refine n_then ?_
      | with_reducible refine t_ret ?_ | with_reducible refine t_skip ?_ | with_reducible refine t_exit ?_ | with_reducible refine t_block ?_
      | with_reducible refine n_block ?_ | with_reducible refine e_then ?_ | with_reducible refine x_then ?_ | with_reducible refine x_block ?_ | with_reducible refine t_draw ?_
      | refine r_val rfl rfl True.intro ?_ | refine r_gskip rfl rfl rfl ?_ | refine r_gskip2 rfl rfl rfl ?_ | refine r_gval rfl rfl rfl rfl True.intro ?_
      | refine t_true rfl ?_ | refine t_false rfl ?_
      | ((first | refine t_cond_d rfl (fun _ => ?_) (fun _ => ?_) | refine t_cond_i rfl (fun _ => ?_) (fun _ => ?_) | refine t_cond_j rfl (fun _ => ?_) (fun _ => ?_) | refine t_cond_s rfl (fun _ => ?_) (fun _ => ?_) | refine t_cond_n rfl (fun _ => ?_) (fun _ => ?_) | refine t_cond rfl (fun _ => ?_) (fun _ => ?_) | refine c_split_d rfl rfl (fun _ => ?_) (fun _ => ?_) | refine c_split_i rfl rfl (fun _ => ?_) (fun _ => ?_) | refine c_split_j rfl rfl (fun _ => ?_) (fun _ => ?_) | refine c_split_s rfl rfl (fun _ => ?_) (fun _ => ?_) | refine c_split_n rfl rfl (fun _ => ?_) (fun _ => ?_)) <;> try (first | (rename_i hz; exact Bool.noConfusion (show true = false from hz)) | (rename_i hz; exact Bool.noConfusion (show false = true from hz)) | (exfalso; omega)))
      | refine r_val rfl rfl (by (first | omega | exact Nat.le_of_ble_eq_true rfl | (simp only [wrap_u8, IntKind.wrap_i64, IntKind.wrap_i32, wrap_u32', wrap_u64', InI]; (repeat' refine And.intro ?_ ?_) <;> omega) | ((repeat' refine And.intro ?_ ?_) <;> first | omega | rfl | exact Nat.le_refl _ | exact Nat.le_of_ble_eq_true rfl | exact bytesF_one _) | (simp_all; done) | (simp_all; omega))) ?_ | refine r_gval rfl rfl rfl rfl (by (first | omega | exact Nat.le_of_ble_eq_true rfl | (simp only [wrap_u8, IntKind.wrap_i64, IntKind.wrap_i32, wrap_u32', wrap_u64', InI]; (repeat' refine And.intro ?_ ?_) <;> omega) | ((repeat' refine And.intro ?_ ?_) <;> first | omega | rfl | exact Nat.le_refl _ | exact Nat.le_of_ble_eq_true rfl | exact bytesF_one _) | (simp_all; done) | (simp_all; omega))) ?_
      | refine r_obj rfl rfl (by (first | omega | exact Nat.le_of_ble_eq_true rfl | (simp only [wrap_u8, IntKind.wrap_i64, IntKind.wrap_i32, wrap_u32', wrap_u64', InI]; (repeat' refine And.intro ?_ ?_) <;> omega) | ((repeat' refine And.intro ?_ ?_) <;> first | omega | rfl | exact Nat.le_refl _ | exact Nat.le_of_ble_eq_true rfl | exact bytesF_one _) | (simp_all; done) | (simp_all; omega))) ?_ | refine r_sto rfl (by (first | omega | exact Nat.le_of_ble_eq_true rfl | (simp only [wrap_u8, IntKind.wrap_i64, IntKind.wrap_i32, wrap_u32', wrap_u64', InI]; (repeat' refine And.intro ?_ ?_) <;> omega) | ((repeat' refine And.intro ?_ ?_) <;> first | omega | rfl | exact Nat.le_refl _ | exact Nat.le_of_ble_eq_true rfl | exact bytesF_one _) | (simp_all; done) | (simp_all; omega))) ?_ | refine r_gobj rfl rfl rfl rfl (by (first | omega | exact Nat.le_of_ble_eq_true rfl | (simp only [wrap_u8, IntKind.wrap_i64, IntKind.wrap_i32, wrap_u32', wrap_u64', InI]; (repeat' refine And.intro ?_ ?_) <;> omega) | ((repeat' refine And.intro ?_ ?_) <;> first | omega | rfl | exact Nat.le_refl _ | exact Nat.le_of_ble_eq_true rfl | exact bytesF_one _) | (simp_all; done) | (simp_all; omega))) ?_
      | refine e_hit rfl ?_ | refine e_miss rfl ?_
      | refine ⟨by kernel_rfl, ?_⟩ | refine x_end rfl ?_ | refine r_lend2 (f := 45) 3 200 rfl rfl Tryd.call45 rfl rfl rfl rfl rfl rfl rfl rfl rfl cS ?_ | ((with_reducible refine c_grd ?_); (fail_if_success (refine c_lit true rfl rfl rfl ?_)); (fail_if_success (refine c_lit false rfl rfl rfl ?_)); refine c_split rfl rfl (fun _ => ?_) (fun _ => ?_)))
    all_goals rfl

end Go.Proofs.YtinjdlckhmkmaaaDoor.Flow

/- REPORT: layers as texts: the reference's function. -/
namespace Go.Proofs.YtinjdlckhmkmaaaDoor.Flow
open Go

set_option maxRecDepth 100000 in
set_option maxHeartbeats 8000000 in
theorem rlayer_ctr (name : List UInt8) (ext : Int) (l : List FeatR) (hn : name.length ≤ 1048576) (he : I64 ext) (hl : l.length ≤ 64) (hf : ∀ i, i < l.length → FeatOk (l.getD i dFR)) :
    Ctr Tryd.prog 23 [.ag (layC name ext l)] (.s (layT name ext l)) := by
  have hlen := layP_len hn he hl hf
  have c1 := rquote_ctr name hn
  have c2 := rwhole_ctrR ext he.1 he.2
  have c3 := rwhole_ctrR l.length (by omega) (by omega)
  have q1 := quoteL_len name
  have q2 := itoa_lenI ext he.1 he.2
  have q3 := itoa_lenI l.length (by omega) (by omega)
  have eH : (((((([108, 97, 121, 101, 114, 32] ++ quoteL name) ++ [32, 101, 120, 116, 101, 110, 116, 32]) ++ Lib.itoa ext) ++ [32, 102, 101, 97, 116, 117, 114, 101, 115, 32]) ++ Lib.itoa l.length) ++ [10]) = layP name ext l 0 := by
    rw [layP_zero]
    unfold layH
    simp
  generalize quoteL name = Q at *
  generalize Lib.itoa ext = A1 at *
  generalize Lib.itoa l.length = A2 at *
  refine r_fun Tryd.func23 rfl Tryd.ntmps23 Tryd.results23 rfl rfl fun X hL hX => ?_
  repeat' (first
    | with_reducible refine t_seq ?_ | with_reducible refine t_region ?_ | with_reducible refine c_nil ?_ | with_reducible refine n_then ?_
    | with_reducible refine t_ret ?_ | with_reducible refine t_skip ?_ | with_reducible refine t_exit ?_ | with_reducible refine t_block ?_
    | with_reducible refine n_block ?_ | with_reducible refine e_then ?_ | with_reducible refine x_then ?_ | with_reducible refine x_block ?_ | with_reducible refine t_draw ?_
    | refine r_val rfl rfl True.intro ?_ | refine r_gskip rfl rfl rfl ?_ | refine r_gskip2 rfl rfl rfl ?_ | refine r_gval rfl rfl rfl rfl True.intro ?_
    | refine t_true rfl ?_ | refine t_false rfl ?_
    | ((first | refine t_cond_d rfl (fun _ => ?_) (fun _ => ?_) | refine t_cond_i rfl (fun _ => ?_) (fun _ => ?_) | refine t_cond_j rfl (fun _ => ?_) (fun _ => ?_) | refine t_cond_s rfl (fun _ => ?_) (fun _ => ?_) | refine t_cond_n rfl (fun _ => ?_) (fun _ => ?_) | refine t_cond rfl (fun _ => ?_) (fun _ => ?_) | refine c_split_d rfl rfl (fun _ => ?_) (fun _ => ?_) | refine c_split_i rfl rfl (fun _ => ?_) (fun _ => ?_) | refine c_split_j rfl rfl (fun _ => ?_) (fun _ => ?_) | refine c_split_s rfl rfl (fun _ => ?_) (fun _ => ?_) | refine c_split_n rfl rfl (fun _ => ?_) (fun _ => ?_)) <;> try (first | (rename_i hz; exact Bool.noConfusion (show true = false from hz)) | (rename_i hz; exact Bool.noConfusion (show false = true from hz)) | (exfalso; omega)))
    | refine r_val rfl rfl (by (first | (simp only [List.length_append, List.length_cons, List.length_nil]; omega) | omega | exact Nat.le_of_ble_eq_true rfl | (simp only [wrap_u8, IntKind.wrap_i64, IntKind.wrap_i32, wrap_u32', wrap_u64', InI]; (repeat' refine And.intro ?_ ?_) <;> omega) | ((repeat' refine And.intro ?_ ?_) <;> first | omega | rfl | exact Nat.le_refl _ | exact Nat.le_of_ble_eq_true rfl | exact bytesF_one _) | (simp_all; done) | (simp_all; omega))) ?_ | refine r_gval rfl rfl rfl rfl (by (first | (simp only [List.length_append, List.length_cons, List.length_nil]; omega) | omega | exact Nat.le_of_ble_eq_true rfl | (simp only [wrap_u8, IntKind.wrap_i64, IntKind.wrap_i32, wrap_u32', wrap_u64', InI]; (repeat' refine And.intro ?_ ?_) <;> omega) | ((repeat' refine And.intro ?_ ?_) <;> first | omega | rfl | exact Nat.le_refl _ | exact Nat.le_of_ble_eq_true rfl | exact bytesF_one _) | (simp_all; done) | (simp_all; omega))) ?_
    | refine r_obj rfl rfl (by (first | (simp only [List.length_append, List.length_cons, List.length_nil]; omega) | omega | exact Nat.le_of_ble_eq_true rfl | (simp only [wrap_u8, IntKind.wrap_i64, IntKind.wrap_i32, wrap_u32', wrap_u64', InI]; (repeat' refine And.intro ?_ ?_) <;> omega) | ((repeat' refine And.intro ?_ ?_) <;> first | omega | rfl | exact Nat.le_refl _ | exact Nat.le_of_ble_eq_true rfl | exact bytesF_one _) | (simp_all; done) | (simp_all; omega))) ?_ | refine r_sto rfl (by (first | (simp only [List.length_append, List.length_cons, List.length_nil]; omega) | omega | exact Nat.le_of_ble_eq_true rfl | (simp only [wrap_u8, IntKind.wrap_i64, IntKind.wrap_i32, wrap_u32', wrap_u64', InI]; (repeat' refine And.intro ?_ ?_) <;> omega) | ((repeat' refine And.intro ?_ ?_) <;> first | omega | rfl | exact Nat.le_refl _ | exact Nat.le_of_ble_eq_true rfl | exact bytesF_one _) | (simp_all; done) | (simp_all; omega))) ?_ | refine r_gobj rfl rfl rfl rfl (by (first | (simp only [List.length_append, List.length_cons, List.length_nil]; omega) | omega | exact Nat.le_of_ble_eq_true rfl | (simp only [wrap_u8, IntKind.wrap_i64, IntKind.wrap_i32, wrap_u32', wrap_u64', InI]; (repeat' refine And.intro ?_ ?_) <;> omega) | ((repeat' refine And.intro ?_ ?_) <;> first | omega | rfl | exact Nat.le_refl _ | exact Nat.le_of_ble_eq_true rfl | exact bytesF_one _) | (simp_all; done) | (simp_all; omega))) ?_
    | refine e_hit rfl ?_ | refine e_miss rfl ?_
    | refine ⟨by kernel_rfl, ?_⟩ | refine r_call (f := 34) rfl rfl Tryd.call34 rfl c1 ?_ | refine r_call (f := 26) rfl rfl Tryd.call26 rfl c2 ?_ | refine r_call (f := 26) rfl rfl Tryd.call26 rfl c3 ?_ | ((with_reducible refine c_grd ?_); (fail_if_success (refine c_lit true rfl rfl rfl ?_)); (fail_if_success (refine c_lit false rfl rfl rfl ?_)); refine c_split rfl rfl (fun _ => ?_) (fun _ => ?_)))
  refine T.loop hL (fun i : Nat => [(1, .pv 1 0), (3, .s (layP name ext l i)), (4, .i .i64 i)]) (fun i => [(1, .var (layC name ext l))]) (fun i => i ≤ l.length) (fun i => l.length - i) 0
    (Nat.zero_le _) ⟨⟨rfl, congrArg D.s eH, rfl, trivial⟩, ⟨rfl, trivial⟩, rfl, by rw [hX]; intro k hk; cases hk⟩ ?_
  intro i g1
  obtain ⟨l1, l2⟩ := hlen i
  by_cases hi : i < l.length
  · have d1 := rfeature_ctr _ (hf i hi)
    have l3 := featT_len (hf i hi)
    have e : ((layP name ext l i ++ [32, 32]) ++ featT (l.getD i dFR)) ++ [10] = layP name ext l (i + 1) := by
      rw [layP_succ name ext l hi]
      unfold linT
      simp
    generalize featT (l.getD i dFR) = R0 at *
    repeat' (first
      | with_reducible refine t_seq ?_ | with_reducible refine t_region ?_ | with_reducible refine c_nil ?_ | with_reducible refine n_then ?_
      | with_reducible refine t_ret ?_ | with_reducible refine t_skip ?_ | with_reducible refine t_exit ?_ | with_reducible refine t_block ?_
      | with_reducible refine n_block ?_ | with_reducible refine e_then ?_ | with_reducible refine x_then ?_ | with_reducible refine x_block ?_ | with_reducible refine t_draw ?_
      | refine r_val rfl rfl True.intro ?_ | refine r_gskip rfl rfl rfl ?_ | refine r_gskip2 rfl rfl rfl ?_ | refine r_gval rfl rfl rfl rfl True.intro ?_
      | refine t_true rfl ?_ | refine t_false rfl ?_
      | ((first | refine t_cond_d rfl (fun _ => ?_) (fun _ => ?_) | refine t_cond_i rfl (fun _ => ?_) (fun _ => ?_) | refine t_cond_j rfl (fun _ => ?_) (fun _ => ?_) | refine t_cond_s rfl (fun _ => ?_) (fun _ => ?_) | refine t_cond_n rfl (fun _ => ?_) (fun _ => ?_) | refine t_cond rfl (fun _ => ?_) (fun _ => ?_) | refine c_split_d rfl rfl (fun _ => ?_) (fun _ => ?_) | refine c_split_i rfl rfl (fun _ => ?_) (fun _ => ?_) | refine c_split_j rfl rfl (fun _ => ?_) (fun _ => ?_) | refine c_split_s rfl rfl (fun _ => ?_) (fun _ => ?_) | refine c_split_n rfl rfl (fun _ => ?_) (fun _ => ?_)) <;> try (first | (rename_i hz; exact Bool.noConfusion (show true = false from hz)) | (rename_i hz; exact Bool.noConfusion (show false = true from hz)) | (exfalso; omega)))
      | refine r_val rfl rfl (by (first | (simp only [List.length_append, List.length_cons, List.length_nil]; omega) | omega | exact Nat.le_of_ble_eq_true rfl | (simp only [wrap_u8, IntKind.wrap_i64, IntKind.wrap_i32, wrap_u32', wrap_u64', InI]; (repeat' refine And.intro ?_ ?_) <;> omega) | ((repeat' refine And.intro ?_ ?_) <;> first | omega | rfl | exact Nat.le_refl _ | exact Nat.le_of_ble_eq_true rfl | exact bytesF_one _) | (simp_all; done) | (simp_all; omega))) ?_ | refine r_gval rfl rfl rfl rfl (by (first | (simp only [List.length_append, List.length_cons, List.length_nil]; omega) | omega | exact Nat.le_of_ble_eq_true rfl | (simp only [wrap_u8, IntKind.wrap_i64, IntKind.wrap_i32, wrap_u32', wrap_u64', InI]; (repeat' refine And.intro ?_ ?_) <;> omega) | ((repeat' refine And.intro ?_ ?_) <;> first | omega | rfl | exact Nat.le_refl _ | exact Nat.le_of_ble_eq_true rfl | exact bytesF_one _) | (simp_all; done) | (simp_all; omega))) ?_
      | refine r_obj rfl rfl (by (first | (simp only [List.length_append, List.length_cons, List.length_nil]; omega) | omega | exact Nat.le_of_ble_eq_true rfl | (simp only [wrap_u8, IntKind.wrap_i64, IntKind.wrap_i32, wrap_u32', wrap_u64', InI]; (repeat' refine And.intro ?_ ?_) <;> omega) | ((repeat' refine And.intro ?_ ?_) <;> first | omega | rfl | exact Nat.le_refl _ | exact Nat.le_of_ble_eq_true rfl | exact bytesF_one _) | (simp_all; done) | (simp_all; omega))) ?_ | refine r_sto rfl (by (first | (simp only [List.length_append, List.length_cons, List.length_nil]; omega) | omega | exact Nat.le_of_ble_eq_true rfl | (simp only [wrap_u8, IntKind.wrap_i64, IntKind.wrap_i32, wrap_u32', wrap_u64', InI]; (repeat' refine And.intro ?_ ?_) <;> omega) | ((repeat' refine And.intro ?_ ?_) <;> first | omega | rfl | exact Nat.le_refl _ | exact Nat.le_of_ble_eq_true rfl | exact bytesF_one _) | (simp_all; done) | (simp_all; omega))) ?_ | refine r_gobj rfl rfl rfl rfl (by (first | (simp only [List.length_append, List.length_cons, List.length_nil]; omega) | omega | exact Nat.le_of_ble_eq_true rfl | (simp only [wrap_u8, IntKind.wrap_i64, IntKind.wrap_i32, wrap_u32', wrap_u64', InI]; (repeat' refine And.intro ?_ ?_) <;> omega) | ((repeat' refine And.intro ?_ ?_) <;> first | omega | rfl | exact Nat.le_refl _ | exact Nat.le_of_ble_eq_true rfl | exact bytesF_one _) | (simp_all; done) | (simp_all; omega))) ?_
      | refine e_hit rfl ?_ | refine e_miss rfl ?_
      | refine ⟨by kernel_rfl, ?_⟩ | refine x_end rfl ?_ | refine r_call (f := 21) rfl rfl Tryd.call21 rfl d1 ?_ | ((with_reducible refine c_grd ?_); (fail_if_success (refine c_lit true rfl rfl rfl ?_)); (fail_if_success (refine c_lit false rfl rfl rfl ?_)); refine c_split rfl rfl (fun _ => ?_) (fun _ => ?_)))
    all_goals exact ⟨i + 1, by omega, by omega, ⟨rfl, congrArg D.s e, rfl, trivial⟩, ⟨rfl, trivial⟩, rfl, by rw [hX]; intro k hk; cases hk⟩
  · obtain rfl : i = l.length := by omega
    repeat' (first
      | with_reducible refine t_seq ?_ | with_reducible refine t_region ?_ | with_reducible refine c_nil ?_ | with_reducible refine n_then ?_
      | with_reducible refine t_ret ?_ | with_reducible refine t_skip ?_ | with_reducible refine t_exit ?_ | with_reducible refine t_block ?_
      | with_reducible refine n_block ?_ | with_reducible refine e_then ?_ | with_reducible refine x_then ?_ | with_reducible refine x_block ?_ | with_reducible refine t_draw ?_
      | refine r_val rfl rfl True.intro ?_ | refine r_gskip rfl rfl rfl ?_ | refine r_gskip2 rfl rfl rfl ?_ | refine r_gval rfl rfl rfl rfl True.intro ?_
      | refine t_true rfl ?_ | refine t_false rfl ?_
      | ((first | refine t_cond_d rfl (fun _ => ?_) (fun _ => ?_) | refine t_cond_i rfl (fun _ => ?_) (fun _ => ?_) | refine t_cond_j rfl (fun _ => ?_) (fun _ => ?_) | refine t_cond_s rfl (fun _ => ?_) (fun _ => ?_) | refine t_cond_n rfl (fun _ => ?_) (fun _ => ?_) | refine t_cond rfl (fun _ => ?_) (fun _ => ?_) | refine c_split_d rfl rfl (fun _ => ?_) (fun _ => ?_) | refine c_split_i rfl rfl (fun _ => ?_) (fun _ => ?_) | refine c_split_j rfl rfl (fun _ => ?_) (fun _ => ?_) | refine c_split_s rfl rfl (fun _ => ?_) (fun _ => ?_) | refine c_split_n rfl rfl (fun _ => ?_) (fun _ => ?_)) <;> try (first | (rename_i hz; exact Bool.noConfusion (show true = false from hz)) | (rename_i hz; exact Bool.noConfusion (show false = true from hz)) | (exfalso; omega)))
      | refine r_val rfl rfl (by (first | omega | exact Nat.le_of_ble_eq_true rfl | (simp only [wrap_u8, IntKind.wrap_i64, IntKind.wrap_i32, wrap_u32', wrap_u64', InI]; (repeat' refine And.intro ?_ ?_) <;> omega) | ((repeat' refine And.intro ?_ ?_) <;> first | omega | rfl | exact Nat.le_refl _ | exact Nat.le_of_ble_eq_true rfl | exact bytesF_one _) | (simp_all; done) | (simp_all; omega))) ?_ | refine r_gval rfl rfl rfl rfl (by (first | omega | exact Nat.le_of_ble_eq_true rfl | (simp only [wrap_u8, IntKind.wrap_i64, IntKind.wrap_i32, wrap_u32', wrap_u64', InI]; (repeat' refine And.intro ?_ ?_) <;> omega) | ((repeat' refine And.intro ?_ ?_) <;> first | omega | rfl | exact Nat.le_refl _ | exact Nat.le_of_ble_eq_true rfl | exact bytesF_one _) | (simp_all; done) | (simp_all; omega))) ?_
      | refine r_obj rfl rfl (by (first | omega | exact Nat.le_of_ble_eq_true rfl | (simp only [wrap_u8, IntKind.wrap_i64, IntKind.wrap_i32, wrap_u32', wrap_u64', InI]; (repeat' refine And.intro ?_ ?_) <;> omega) | ((repeat' refine And.intro ?_ ?_) <;> first | omega | rfl | exact Nat.le_refl _ | exact Nat.le_of_ble_eq_true rfl | exact bytesF_one _) | (simp_all; done) | (simp_all; omega))) ?_ | refine r_sto rfl (by (first | omega | exact Nat.le_of_ble_eq_true rfl | (simp only [wrap_u8, IntKind.wrap_i64, IntKind.wrap_i32, wrap_u32', wrap_u64', InI]; (repeat' refine And.intro ?_ ?_) <;> omega) | ((repeat' refine And.intro ?_ ?_) <;> first | omega | rfl | exact Nat.le_refl _ | exact Nat.le_of_ble_eq_true rfl | exact bytesF_one _) | (simp_all; done) | (simp_all; omega))) ?_ | refine r_gobj rfl rfl rfl rfl (by (first | omega | exact Nat.le_of_ble_eq_true rfl | (simp only [wrap_u8, IntKind.wrap_i64, IntKind.wrap_i32, wrap_u32', wrap_u64', InI]; (repeat' refine And.intro ?_ ?_) <;> omega) | ((repeat' refine And.intro ?_ ?_) <;> first | omega | rfl | exact Nat.le_refl _ | exact Nat.le_of_ble_eq_true rfl | exact bytesF_one _) | (simp_all; done) | (simp_all; omega))) ?_
      | refine e_hit rfl ?_ | refine e_miss rfl ?_
      | refine ⟨by kernel_rfl, ?_⟩ | refine x_end rfl ?_ | ((with_reducible refine c_grd ?_); (fail_if_success (refine c_lit true rfl rfl rfl ?_)); (fail_if_success (refine c_lit false rfl rfl rfl ?_)); refine c_split rfl rfl (fun _ => ?_) (fun _ => ?_)))
    all_goals rfl

end Go.Proofs.YtinjdlckhmkmaaaDoor.Flow

/- REPORT: ReportLayers' function. -/
namespace Go.Proofs.YtinjdlckhmkmaaaDoor.Flow
open Go

/-- A scan that came through: each step was taken. -/
theorem scanO_all {step : Nat → Int → Option Int} {len B : Nat} (I : Int → Prop) (hI : ∀ k n m, I n → step k n = some m → I m) : ∀ (d i : Nat) (n : Int), B - i = d → I n → scanO step len B i n ≠ none → ∀ k, i ≤ k → k < len → k < B → ∃ n', I n' ∧ step k n' ≠ none
  | 0, i, n, hd, _, _, k, h1, _, h3 => by omega
  | d + 1, i, n, hd, hn, hs, k, h1, h2, h3 => by
    have hi : i < len := by omega
    cases he : step i n with
    | none => exact absurd (scanO_stop hi (by omega) he) hs
    | some m =>
      rcases Nat.eq_or_lt_of_le h1 with rfl | h4
      · exact ⟨n, hn, by rw [he]; simp⟩
      · exact scanO_all I hI d (i + 1) m (by omega) (hI _ _ _ hn he) (by rw [← scanO_more hi (by omega) he]; exact hs) k h4 h2 h3

theorem muchP_no {pn : Nat} {p : Nat → Nat × (Nat → List D)} (h : muchP pn p = false) : pn ≤ 40 ∧ ∀ k, k < pn → (p k).1 ≤ 300 := by
  unfold muchP at h
  cases hs : scanO (pthW p) pn 40 0 0 with
  | none => rw [hs] at h; cases h
  | some m =>
    rw [hs] at h
    have h1 : pn ≤ 40 := by
      have := of_decide_eq_false h
      omega
    refine ⟨h1, fun k hk => ?_⟩
    obtain ⟨n, hn, hne⟩ := scanO_all (step := pthW p) (len := pn) (B := 40) (fun n => 0 ≤ n) (fun k n m hn hm => by
      unfold pthW at hm
      split at hm
      · cases hm
      · cases hm
        omega) 40 0 0 rfl (Int.le_refl 0) (by rw [hs]; simp) k (Nat.zero_le _) hk (by omega)
    unfold pthW at hne
    split at hne
    · exact absurd rfl hne
    · omega

theorem featW_no {l : List Feat} {k : Nat} {n : Int} (h : featW l k n ≠ none) : muchP (l.getD k dF).pn (l.getD k dF).pf = false ∧ (l.getD k dF).ats.length ≤ 20 := by
  unfold featW at h
  split at h
  · exact absurd rfl h
  · rename_i h2
    rw [not_or] at h2
    exact ⟨by simpa using h2.1, by omega⟩

theorem muchL_no {name : Txt} {ext : Int} {l : List Feat} (h : muchL [(name, ext, l)] = false) : l.length ≤ 30 ∧ ∀ k, k < l.length → muchP (l.getD k dF).pn (l.getD k dF).pf = false ∧ (l.getD k dF).ats.length ≤ 20 := by
  unfold muchL at h
  cases hs : scanO (layW [(name, ext, l)]) 1 12 0 0 with
  | none =>
    rw [show [(name, ext, l)].length = 1 from rfl, hs] at h
    cases h
  | some m =>
    have h1 : layW [(name, ext, l)] 0 0 ≠ none := fun e => by
      rw [scanO_stop (by omega) (by omega) e] at hs
      cases hs
    have e : layW [(name, ext, l)] 0 0 = match scanO (featW l) l.length 40 0 (0 + (name.length : Int)) with
      | none => none
      | some m => if m > 1500 ∨ l.length > 30 then none else some m := rfl
    rw [e] at h1
    cases hs2 : scanO (featW l) l.length 40 0 (0 + (name.length : Int)) with
    | none => rw [hs2] at h1; exact absurd rfl h1
    | some m2 =>
      rw [hs2] at h1
      dsimp only at h1
      split at h1
      · exact absurd rfl h1
      · rename_i h3
        have h4 : l.length ≤ 30 := by omega
        refine ⟨h4, fun k hk => ?_⟩
        obtain ⟨n, _, hne⟩ := scanO_all (step := featW l) (len := l.length) (B := 40) (fun _ => True) (fun _ _ _ _ _ => trivial) 40 0 _ rfl trivial (by rw [hs2]; simp) k (Nat.zero_le _) hk (by omega)
        exact featW_no hne

structure FeatSm (f : FeatR) : Prop where
  id : f.id < 18446744073709551616
  np : f.paths.length ≤ 1048576
  ps : ∀ i, ptsOk (f.paths.getD i [])
  na : f.ats.length ≤ 1048576
  aso : ∀ i, (f.ats.getD i dA).1.length ≤ 1048576 ∧ (f.ats.getD i dA).2.2.1.length ≤ 1048576 ∧ 0 ≤ (f.ats.getD i dA).2.2.2 ∧ (f.ats.getD i dA).2.2.2 < 18446744073709551616

theorem toF_zero : toF dFR = dF := rfl
theorem feats_at (l : List FeatR) (i : Nat) : (l.map toF).getD i dF = toF (l.getD i dFR) := by rw [← toF_zero]; simp only [List.getD_eq_getElem?_getD, List.getElem?_map]; cases l[i]? <;> rfl
theorem ftsF_eq (l : List FeatR) : ftsF l = featF (l.map toF) := by
  funext i
  unfold ftsF featF
  rw [feats_at]
  rfl

theorem featOk_of {f : FeatR} (h : FeatSm f) (h1 : muchP (toF f).pn (toF f).pf = false) (h2 : (toF f).ats.length ≤ 20) : FeatOk f := by
  obtain ⟨h3, h4⟩ := muchP_no h1
  have h3 : f.paths.length ≤ 40 := h3
  refine ⟨h.id, by omega, fun i => ⟨h.ps i, ?_⟩, by have : f.ats.length ≤ 20 := h2
                                                    omega, h.aso⟩
  by_cases hi : i < f.paths.length
  · have : (f.paths.getD i []).length ≤ 300 := h4 i hi
    omega
  · rw [List.getD_eq_getElem?_getD, List.getElem?_eq_none (by omega)]
    simp

theorem smallL_of1 {name : List UInt8} {ext : Int} {l : List FeatR} (hn : name.length ≤ 1048576) (hl : l.length ≤ 1048576) (hf : ∀ i, FeatSm (l.getD i dFR)) : smallL [(name, ext, l.map toF)] := by
  refine ⟨by simp, fun i => ?_⟩
  match i with
  | 0 =>
    refine ⟨hn, by show (l.map toF).length ≤ _; simpa using hl, fun k => ?_⟩
    show smallFe ((l.map toF).getD k dF)
    rw [feats_at]
    have h := hf k
    exact ⟨h.np, fun j => (h.ps j).1, h.na, fun j => ⟨(h.aso j).1, (h.aso j).2.1⟩⟩
  | i + 1 =>
    show ([] : List UInt8).length ≤ _ ∧ _
    refine ⟨by simp, by show ([] : List Feat).length ≤ _; simp, fun k => ?_⟩
    show smallFe dF
    exact ⟨by decide, fun _ => Nat.zero_le _, by simp [dF], fun j => ⟨by simp [dF, dA], by simp [dF, dA]⟩⟩

set_option maxRecDepth 100000 in
set_option maxHeartbeats 4000000 in
theorem law_layers_ctr (name : List UInt8) (ext : Int) (l : List FeatR) (hn : name.length ≤ 1048576) (he : I64 ext) (hl : l.length ≤ 1048576) (hf : ∀ i, FeatSm (l.getD i dFR)) :
    Ctr Tryd.prog 5 [.ag (layC name ext l)] (.b true) := by
  have cl := live_ctrR
  have cm0 := rmuchL_ctr [(name, ext, l.map toF)] (smallL_of1 hn hl hf)
  have cm : Ctr Tryd.prog 18 [.sl 3 1 (chunk 3 [.s name, .i .i64 ext, .sl 5 l.length (ftsF l)])] (.b (muchL [(name, ext, l.map toF)])) := by
    refine cm0.weak1 (.sl 3 1 _ _ (fun i hi => ?_) (fun i j hi hj => ?_))
    · obtain rfl : i = 0 := by omega
      exact ⟨rfl, rfl⟩
    · obtain rfl : i = 0 := by omega
      have hj : j < 3 := hj
      match j, hj with
      | 0, _ => exact .refl _
      | 1, _ => exact .refl _
      | 2, _ =>
        show Weak (.sl 5 l.length (ftsF l)) (.sl 5 (l.map toF).length (featF (l.map toF)))
        rw [ftsF_eq, List.length_map]
        exact .refl _
  by_cases hm : muchL [(name, ext, l.map toF)] = true
  · rw [hm] at cm
    refine r_fun Tryd.func5 rfl Tryd.ntmps5 Tryd.results5 rfl rfl fun X hL hX => ?_
    repeat' (first
      | with_reducible refine t_seq ?_ | with_reducible refine t_region ?_ | with_reducible refine c_nil ?_ | with_reducible refine n_then ?_
      | with_reducible refine t_ret ?_ | with_reducible refine t_skip ?_ | with_reducible refine t_exit ?_ | with_reducible refine t_block ?_
      | with_reducible refine n_block ?_ | with_reducible refine e_then ?_ | with_reducible refine x_then ?_ | with_reducible refine x_block ?_ | with_reducible refine t_draw ?_
      | refine r_val rfl rfl True.intro ?_ | refine r_gskip rfl rfl rfl ?_ | refine r_gskip2 rfl rfl rfl ?_ | refine r_gval rfl rfl rfl rfl True.intro ?_
      | refine t_true rfl ?_ | refine t_false rfl ?_
      | ((first | refine t_cond_d rfl (fun _ => ?_) (fun _ => ?_) | refine t_cond_i rfl (fun _ => ?_) (fun _ => ?_) | refine t_cond_j rfl (fun _ => ?_) (fun _ => ?_) | refine t_cond_s rfl (fun _ => ?_) (fun _ => ?_) | refine t_cond_n rfl (fun _ => ?_) (fun _ => ?_) | refine t_cond rfl (fun _ => ?_) (fun _ => ?_) | refine c_split_d rfl rfl (fun _ => ?_) (fun _ => ?_) | refine c_split_i rfl rfl (fun _ => ?_) (fun _ => ?_) | refine c_split_j rfl rfl (fun _ => ?_) (fun _ => ?_) | refine c_split_s rfl rfl (fun _ => ?_) (fun _ => ?_) | refine c_split_n rfl rfl (fun _ => ?_) (fun _ => ?_)) <;> try (first | (rename_i hz; exact Bool.noConfusion (show true = false from hz)) | (rename_i hz; exact Bool.noConfusion (show false = true from hz)) | (exfalso; omega)))
      | refine r_val rfl rfl (by (first | omega | exact Nat.le_of_ble_eq_true rfl | (simp only [wrap_u8, IntKind.wrap_i64, IntKind.wrap_i32, wrap_u32', wrap_u64', InI]; (repeat' refine And.intro ?_ ?_) <;> omega) | ((repeat' refine And.intro ?_ ?_) <;> first | omega | rfl | exact Nat.le_refl _ | exact Nat.le_of_ble_eq_true rfl | exact bytesF_one _) | (simp_all; done) | (simp_all; omega))) ?_ | refine r_gval rfl rfl rfl rfl (by (first | omega | exact Nat.le_of_ble_eq_true rfl | (simp only [wrap_u8, IntKind.wrap_i64, IntKind.wrap_i32, wrap_u32', wrap_u64', InI]; (repeat' refine And.intro ?_ ?_) <;> omega) | ((repeat' refine And.intro ?_ ?_) <;> first | omega | rfl | exact Nat.le_refl _ | exact Nat.le_of_ble_eq_true rfl | exact bytesF_one _) | (simp_all; done) | (simp_all; omega))) ?_
      | refine r_obj rfl rfl (by (first | omega | exact Nat.le_of_ble_eq_true rfl | (simp only [wrap_u8, IntKind.wrap_i64, IntKind.wrap_i32, wrap_u32', wrap_u64', InI]; (repeat' refine And.intro ?_ ?_) <;> omega) | ((repeat' refine And.intro ?_ ?_) <;> first | omega | rfl | exact Nat.le_refl _ | exact Nat.le_of_ble_eq_true rfl | exact bytesF_one _) | (simp_all; done) | (simp_all; omega))) ?_ | refine r_sto rfl (by (first | omega | exact Nat.le_of_ble_eq_true rfl | (simp only [wrap_u8, IntKind.wrap_i64, IntKind.wrap_i32, wrap_u32', wrap_u64', InI]; (repeat' refine And.intro ?_ ?_) <;> omega) | ((repeat' refine And.intro ?_ ?_) <;> first | omega | rfl | exact Nat.le_refl _ | exact Nat.le_of_ble_eq_true rfl | exact bytesF_one _) | (simp_all; done) | (simp_all; omega))) ?_ | refine r_gobj rfl rfl rfl rfl (by (first | omega | exact Nat.le_of_ble_eq_true rfl | (simp only [wrap_u8, IntKind.wrap_i64, IntKind.wrap_i32, wrap_u32', wrap_u64', InI]; (repeat' refine And.intro ?_ ?_) <;> omega) | ((repeat' refine And.intro ?_ ?_) <;> first | omega | rfl | exact Nat.le_refl _ | exact Nat.le_of_ble_eq_true rfl | exact bytesF_one _) | (simp_all; done) | (simp_all; omega))) ?_
      | refine e_hit rfl ?_ | refine e_miss rfl ?_
      | refine ⟨by kernel_rfl, ?_⟩ | refine x_end rfl ?_ | refine r_call (f := 6) rfl rfl Tryd.call6 rfl cl ?_ | refine r_call (f := 18) rfl rfl Tryd.call18 rfl cm ?_ | ((with_reducible refine c_grd ?_); (fail_if_success (refine c_lit true rfl rfl rfl ?_)); (fail_if_success (refine c_lit false rfl rfl rfl ?_)); refine c_split rfl rfl (fun _ => ?_) (fun _ => ?_)))
    all_goals rfl
  · have hm : muchL [(name, ext, l.map toF)] = false := by simpa using hm
    rw [hm] at cm
    obtain ⟨h1, h2⟩ := muchL_no hm
    have h1 : l.length ≤ 30 := by simpa using h1
    have hok : ∀ i, i < l.length → muchP (toF (l.getD i dFR)).pn (toF (l.getD i dFR)).pf = false ∧ FeatOk (l.getD i dFR) := fun i hi => by
      have h3 := h2 i (by simpa using hi)
      rw [feats_at] at h3
      exact ⟨h3.1, featOk_of (hf i) h3.1 h3.2⟩
    have c1 := layer_ctr name ext l hn he (by omega) fun i hi => (hok i hi).2
    have c2 := rlayer_ctr name ext l hn he (by omega) fun i hi => (hok i hi).2
    generalize layT name ext l = LT at *
    clear h2 hm cm0
    refine r_fun Tryd.func5 rfl Tryd.ntmps5 Tryd.results5 rfl rfl fun X hL hX => ?_
    repeat' (first
      | with_reducible refine t_seq ?_ | with_reducible refine t_region ?_ | with_reducible refine c_nil ?_ | with_reducible refine n_then ?_
      | with_reducible refine t_ret ?_ | with_reducible refine t_skip ?_ | with_reducible refine t_exit ?_ | with_reducible refine t_block ?_
      | with_reducible refine n_block ?_ | with_reducible refine e_then ?_ | with_reducible refine x_then ?_ | with_reducible refine x_block ?_ | with_reducible refine t_draw ?_
      | refine r_val rfl rfl True.intro ?_ | refine r_gskip rfl rfl rfl ?_ | refine r_gskip2 rfl rfl rfl ?_ | refine r_gval rfl rfl rfl rfl True.intro ?_
      | refine t_true rfl ?_ | refine t_false rfl ?_
      | ((first | refine t_cond_d rfl (fun _ => ?_) (fun _ => ?_) | refine t_cond_i rfl (fun _ => ?_) (fun _ => ?_) | refine t_cond_j rfl (fun _ => ?_) (fun _ => ?_) | refine t_cond_s rfl (fun _ => ?_) (fun _ => ?_) | refine t_cond_n rfl (fun _ => ?_) (fun _ => ?_) | refine t_cond rfl (fun _ => ?_) (fun _ => ?_) | refine c_split_d rfl rfl (fun _ => ?_) (fun _ => ?_) | refine c_split_i rfl rfl (fun _ => ?_) (fun _ => ?_) | refine c_split_j rfl rfl (fun _ => ?_) (fun _ => ?_) | refine c_split_s rfl rfl (fun _ => ?_) (fun _ => ?_) | refine c_split_n rfl rfl (fun _ => ?_) (fun _ => ?_)) <;> try (first | (rename_i hz; exact Bool.noConfusion (show true = false from hz)) | (rename_i hz; exact Bool.noConfusion (show false = true from hz)) | (exfalso; omega)))
      | refine r_val rfl rfl (by (first | omega | exact Nat.le_of_ble_eq_true rfl | (simp only [wrap_u8, IntKind.wrap_i64, IntKind.wrap_i32, wrap_u32', wrap_u64', InI]; (repeat' refine And.intro ?_ ?_) <;> omega) | ((repeat' refine And.intro ?_ ?_) <;> first | omega | rfl | exact Nat.le_refl _ | exact Nat.le_of_ble_eq_true rfl | exact bytesF_one _) | (simp_all; done) | (simp_all; omega))) ?_ | refine r_gval rfl rfl rfl rfl (by (first | omega | exact Nat.le_of_ble_eq_true rfl | (simp only [wrap_u8, IntKind.wrap_i64, IntKind.wrap_i32, wrap_u32', wrap_u64', InI]; (repeat' refine And.intro ?_ ?_) <;> omega) | ((repeat' refine And.intro ?_ ?_) <;> first | omega | rfl | exact Nat.le_refl _ | exact Nat.le_of_ble_eq_true rfl | exact bytesF_one _) | (simp_all; done) | (simp_all; omega))) ?_
      | refine r_obj rfl rfl (by (first | omega | exact Nat.le_of_ble_eq_true rfl | (simp only [wrap_u8, IntKind.wrap_i64, IntKind.wrap_i32, wrap_u32', wrap_u64', InI]; (repeat' refine And.intro ?_ ?_) <;> omega) | ((repeat' refine And.intro ?_ ?_) <;> first | omega | rfl | exact Nat.le_refl _ | exact Nat.le_of_ble_eq_true rfl | exact bytesF_one _) | (simp_all; done) | (simp_all; omega))) ?_ | refine r_sto rfl (by (first | omega | exact Nat.le_of_ble_eq_true rfl | (simp only [wrap_u8, IntKind.wrap_i64, IntKind.wrap_i32, wrap_u32', wrap_u64', InI]; (repeat' refine And.intro ?_ ?_) <;> omega) | ((repeat' refine And.intro ?_ ?_) <;> first | omega | rfl | exact Nat.le_refl _ | exact Nat.le_of_ble_eq_true rfl | exact bytesF_one _) | (simp_all; done) | (simp_all; omega))) ?_ | refine r_gobj rfl rfl rfl rfl (by (first | omega | exact Nat.le_of_ble_eq_true rfl | (simp only [wrap_u8, IntKind.wrap_i64, IntKind.wrap_i32, wrap_u32', wrap_u64', InI]; (repeat' refine And.intro ?_ ?_) <;> omega) | ((repeat' refine And.intro ?_ ?_) <;> first | omega | rfl | exact Nat.le_refl _ | exact Nat.le_of_ble_eq_true rfl | exact bytesF_one _) | (simp_all; done) | (simp_all; omega))) ?_
      | refine e_hit rfl ?_ | refine e_miss rfl ?_
      | refine ⟨by kernel_rfl, ?_⟩ | refine x_end rfl ?_ | refine r_call (f := 6) rfl rfl Tryd.call6 rfl cl ?_ | refine r_call (f := 18) rfl rfl Tryd.call18 rfl cm ?_ | ((with_reducible refine c_grd ?_); (fail_if_success (refine c_lit true rfl rfl rfl ?_)); (fail_if_success (refine c_lit false rfl rfl rfl ?_)); refine c_split rfl rfl (fun _ => ?_) (fun _ => ?_)))
    refine T.loop hL (fun i : Nat => [(1, .pv 1 0), (3, .i .i64 i)]) (fun i => [(1, .var (layC name ext l))]) (fun i => i ≤ l.length) (fun i => l.length - i) 0
      (Nat.zero_le _) ⟨⟨rfl, rfl, trivial⟩, ⟨rfl, trivial⟩, rfl, by rw [hX]; intro k hk; cases hk⟩ ?_
    intro i g1
    by_cases hi : i < l.length
    · obtain ⟨k1, k2⟩ := hok i hi
      have d1 := feature_ctr _ k2
      have d2 := rfeature_ctr _ k2
      have d3 := rmuchP_ctr (toF (l.getD i dFR)).pn (toF (l.getD i dFR)).pf (hf i).np (fun k => ((hf i).ps k).1)
      rw [k1] at d3
      generalize featT (l.getD i dFR) = R at *
      repeat' (first
        | with_reducible refine t_seq ?_ | with_reducible refine t_region ?_ | with_reducible refine c_nil ?_ | with_reducible refine n_then ?_
        | with_reducible refine t_ret ?_ | with_reducible refine t_skip ?_ | with_reducible refine t_exit ?_ | with_reducible refine t_block ?_
        | with_reducible refine n_block ?_ | with_reducible refine e_then ?_ | with_reducible refine x_then ?_ | with_reducible refine x_block ?_ | with_reducible refine t_draw ?_
        | refine r_val rfl rfl True.intro ?_ | refine r_gskip rfl rfl rfl ?_ | refine r_gskip2 rfl rfl rfl ?_ | refine r_gval rfl rfl rfl rfl True.intro ?_
        | refine t_true rfl ?_ | refine t_false rfl ?_
        | ((first | refine t_cond_d rfl (fun _ => ?_) (fun _ => ?_) | refine t_cond_i rfl (fun _ => ?_) (fun _ => ?_) | refine t_cond_j rfl (fun _ => ?_) (fun _ => ?_) | refine t_cond_s rfl (fun _ => ?_) (fun _ => ?_) | refine t_cond_n rfl (fun _ => ?_) (fun _ => ?_) | refine t_cond rfl (fun _ => ?_) (fun _ => ?_) | refine c_split_d rfl rfl (fun _ => ?_) (fun _ => ?_) | refine c_split_i rfl rfl (fun _ => ?_) (fun _ => ?_) | refine c_split_j rfl rfl (fun _ => ?_) (fun _ => ?_) | refine c_split_s rfl rfl (fun _ => ?_) (fun _ => ?_) | refine c_split_n rfl rfl (fun _ => ?_) (fun _ => ?_)) <;> try (first | (rename_i hz; exact Bool.noConfusion (show true = false from hz)) | (rename_i hz; exact Bool.noConfusion (show false = true from hz)) | (exfalso; omega)))
        | refine r_val rfl rfl (by (first | omega | exact Nat.le_of_ble_eq_true rfl | (simp only [wrap_u8, IntKind.wrap_i64, IntKind.wrap_i32, wrap_u32', wrap_u64', InI]; (repeat' refine And.intro ?_ ?_) <;> omega) | ((repeat' refine And.intro ?_ ?_) <;> first | omega | rfl | exact Nat.le_refl _ | exact Nat.le_of_ble_eq_true rfl | exact bytesF_one _) | (simp_all; done) | (simp_all; omega))) ?_ | refine r_gval rfl rfl rfl rfl (by (first | omega | exact Nat.le_of_ble_eq_true rfl | (simp only [wrap_u8, IntKind.wrap_i64, IntKind.wrap_i32, wrap_u32', wrap_u64', InI]; (repeat' refine And.intro ?_ ?_) <;> omega) | ((repeat' refine And.intro ?_ ?_) <;> first | omega | rfl | exact Nat.le_refl _ | exact Nat.le_of_ble_eq_true rfl | exact bytesF_one _) | (simp_all; done) | (simp_all; omega))) ?_
        | refine r_obj rfl rfl (by (first | omega | exact Nat.le_of_ble_eq_true rfl | (simp only [wrap_u8, IntKind.wrap_i64, IntKind.wrap_i32, wrap_u32', wrap_u64', InI]; (repeat' refine And.intro ?_ ?_) <;> omega) | ((repeat' refine And.intro ?_ ?_) <;> first | omega | rfl | exact Nat.le_refl _ | exact Nat.le_of_ble_eq_true rfl | exact bytesF_one _) | (simp_all; done) | (simp_all; omega))) ?_ | refine r_sto rfl (by (first | omega | exact Nat.le_of_ble_eq_true rfl | (simp only [wrap_u8, IntKind.wrap_i64, IntKind.wrap_i32, wrap_u32', wrap_u64', InI]; (repeat' refine And.intro ?_ ?_) <;> omega) | ((repeat' refine And.intro ?_ ?_) <;> first | omega | rfl | exact Nat.le_refl _ | exact Nat.le_of_ble_eq_true rfl | exact bytesF_one _) | (simp_all; done) | (simp_all; omega))) ?_ | refine r_gobj rfl rfl rfl rfl (by (first | omega | exact Nat.le_of_ble_eq_true rfl | (simp only [wrap_u8, IntKind.wrap_i64, IntKind.wrap_i32, wrap_u32', wrap_u64', InI]; (repeat' refine And.intro ?_ ?_) <;> omega) | ((repeat' refine And.intro ?_ ?_) <;> first | omega | rfl | exact Nat.le_refl _ | exact Nat.le_of_ble_eq_true rfl | exact bytesF_one _) | (simp_all; done) | (simp_all; omega))) ?_
        | refine e_hit rfl ?_ | refine e_miss rfl ?_
        | refine ⟨by kernel_rfl, ?_⟩ | refine x_end rfl ?_ | refine r_call (f := 6) rfl rfl Tryd.call6 rfl cl ?_ | refine r_call (f := 19) rfl rfl Tryd.call19 rfl d3 ?_ | refine r_call (f := 20) rfl rfl Tryd.call20 rfl d1 ?_ | refine r_call (f := 21) rfl rfl Tryd.call21 rfl d2 ?_ | ((with_reducible refine c_grd ?_); (fail_if_success (refine c_lit true rfl rfl rfl ?_)); (fail_if_success (refine c_lit false rfl rfl rfl ?_)); refine c_split rfl rfl (fun _ => ?_) (fun _ => ?_)))
      all_goals first
        | exact ⟨i + 1, by omega, by omega, ⟨rfl, rfl, trivial⟩, ⟨rfl, trivial⟩, rfl, by rw [hX]; intro k hk; cases hk⟩
        | rfl
        | (exfalso; simp_all; done)
    · obtain rfl : i = l.length := by omega
      repeat' (first
        | with_reducible refine t_seq ?_ | with_reducible refine t_region ?_ | with_reducible refine c_nil ?_ | with_reducible refine n_then ?_
        | with_reducible refine t_ret ?_ | with_reducible refine t_skip ?_ | with_reducible refine t_exit ?_ | with_reducible refine t_block ?_
        | with_reducible refine n_block ?_ | with_reducible refine e_then ?_ | with_reducible refine x_then ?_ | with_reducible refine x_block ?_ | with_reducible refine t_draw ?_
        | refine r_val rfl rfl True.intro ?_ | refine r_gskip rfl rfl rfl ?_ | refine r_gskip2 rfl rfl rfl ?_ | refine r_gval rfl rfl rfl rfl True.intro ?_
        | refine t_true rfl ?_ | refine t_false rfl ?_
        | ((first | refine t_cond_d rfl (fun _ => ?_) (fun _ => ?_) | refine t_cond_i rfl (fun _ => ?_) (fun _ => ?_) | refine t_cond_j rfl (fun _ => ?_) (fun _ => ?_) | refine t_cond_s rfl (fun _ => ?_) (fun _ => ?_) | refine t_cond_n rfl (fun _ => ?_) (fun _ => ?_) | refine t_cond rfl (fun _ => ?_) (fun _ => ?_) | refine c_split_d rfl rfl (fun _ => ?_) (fun _ => ?_) | refine c_split_i rfl rfl (fun _ => ?_) (fun _ => ?_) | refine c_split_j rfl rfl (fun _ => ?_) (fun _ => ?_) | refine c_split_s rfl rfl (fun _ => ?_) (fun _ => ?_) | refine c_split_n rfl rfl (fun _ => ?_) (fun _ => ?_)) <;> try (first | (rename_i hz; exact Bool.noConfusion (show true = false from hz)) | (rename_i hz; exact Bool.noConfusion (show false = true from hz)) | (exfalso; omega)))
        | refine r_val rfl rfl (by (first | omega | exact Nat.le_of_ble_eq_true rfl | (simp only [wrap_u8, IntKind.wrap_i64, IntKind.wrap_i32, wrap_u32', wrap_u64', InI]; (repeat' refine And.intro ?_ ?_) <;> omega) | ((repeat' refine And.intro ?_ ?_) <;> first | omega | rfl | exact Nat.le_refl _ | exact Nat.le_of_ble_eq_true rfl | exact bytesF_one _) | (simp_all; done) | (simp_all; omega))) ?_ | refine r_gval rfl rfl rfl rfl (by (first | omega | exact Nat.le_of_ble_eq_true rfl | (simp only [wrap_u8, IntKind.wrap_i64, IntKind.wrap_i32, wrap_u32', wrap_u64', InI]; (repeat' refine And.intro ?_ ?_) <;> omega) | ((repeat' refine And.intro ?_ ?_) <;> first | omega | rfl | exact Nat.le_refl _ | exact Nat.le_of_ble_eq_true rfl | exact bytesF_one _) | (simp_all; done) | (simp_all; omega))) ?_
        | refine r_obj rfl rfl (by (first | omega | exact Nat.le_of_ble_eq_true rfl | (simp only [wrap_u8, IntKind.wrap_i64, IntKind.wrap_i32, wrap_u32', wrap_u64', InI]; (repeat' refine And.intro ?_ ?_) <;> omega) | ((repeat' refine And.intro ?_ ?_) <;> first | omega | rfl | exact Nat.le_refl _ | exact Nat.le_of_ble_eq_true rfl | exact bytesF_one _) | (simp_all; done) | (simp_all; omega))) ?_ | refine r_sto rfl (by (first | omega | exact Nat.le_of_ble_eq_true rfl | (simp only [wrap_u8, IntKind.wrap_i64, IntKind.wrap_i32, wrap_u32', wrap_u64', InI]; (repeat' refine And.intro ?_ ?_) <;> omega) | ((repeat' refine And.intro ?_ ?_) <;> first | omega | rfl | exact Nat.le_refl _ | exact Nat.le_of_ble_eq_true rfl | exact bytesF_one _) | (simp_all; done) | (simp_all; omega))) ?_ | refine r_gobj rfl rfl rfl rfl (by (first | omega | exact Nat.le_of_ble_eq_true rfl | (simp only [wrap_u8, IntKind.wrap_i64, IntKind.wrap_i32, wrap_u32', wrap_u64', InI]; (repeat' refine And.intro ?_ ?_) <;> omega) | ((repeat' refine And.intro ?_ ?_) <;> first | omega | rfl | exact Nat.le_refl _ | exact Nat.le_of_ble_eq_true rfl | exact bytesF_one _) | (simp_all; done) | (simp_all; omega))) ?_
        | refine e_hit rfl ?_ | refine e_miss rfl ?_
        | refine ⟨by kernel_rfl, ?_⟩ | refine x_end rfl ?_ | refine r_call (f := 22) rfl rfl Tryd.call22 rfl c1 ?_ | refine r_call (f := 23) rfl rfl Tryd.call23 rfl c2 ?_ | refine r_gcall (f := 6) rfl rfl rfl rfl Tryd.call6 rfl cl ?_ | ((with_reducible refine c_grd ?_); (fail_if_success (refine c_lit true rfl rfl rfl ?_)); (fail_if_success (refine c_lit false rfl rfl rfl ?_)); refine c_split rfl rfl (fun _ => ?_) (fun _ => ?_)))
      all_goals first
        | rfl
        | (exfalso; simp_all; done)
        | exact congrArg D.b (by simp_all)

end Go.Proofs.YtinjdlckhmkmaaaDoor.Flow

/- REPORT: a layer among a row's arguments. -/
namespace Go.Proofs.YtinjdlckhmkmaaaDoor.Flow
open Go

section
variable {H : Type} {enc : TypeId × Value → H} {W : World}

abbrev k0 (d : DataW H) : DataW H := (kids d).getD 0 .nil
abbrev k1 (d : DataW H) : DataW H := ((kids d).drop 1).getD 0 .nil
abbrev k2 (d : DataW H) : DataW H := (((kids d).drop 1).drop 1).getD 0 .nil
abbrev k3 (d : DataW H) : DataW H := ((((kids d).drop 1).drop 1).drop 1).getD 0 .nil
abbrev k4 (d : DataW H) : DataW H := (((((kids d).drop 1).drop 1).drop 1).drop 1).getD 0 .nil

theorem bulk_in (d : DataW H) (l : List (DataW H)) (hl : ∀ x ∈ l, x ∈ kids d) (i : Nat) : Rows.uptoBulk (l.getD i .nil) ≤ Rows.uptoBulk d := by
  by_cases h : i < l.length
  · rw [List.getD_eq_getElem?_getD, List.getElem?_eq_getElem h, Option.getD_some]
    have := bulk_mem (hl _ (List.getElem_mem h))
    have := bulk_kids d
    omega
  · rw [List.getD_eq_getElem?_getD, List.getElem?_eq_none (by omega), Option.getD_none]
    exact bulk_one d

theorem bk0 (d : DataW H) (i : Nat) : Rows.uptoBulk ((kids d).getD i .nil) ≤ Rows.uptoBulk d := bulk_in d _ (fun _ h => h) i
theorem bk1 (d : DataW H) : Rows.uptoBulk (k1 d) ≤ Rows.uptoBulk d := bulk_in d _ (fun _ h => List.mem_of_mem_drop h) 0
theorem bk2 (d : DataW H) : Rows.uptoBulk (k2 d) ≤ Rows.uptoBulk d := bulk_in d _ (fun _ h => List.mem_of_mem_drop (List.mem_of_mem_drop h)) 0
theorem bk3 (d : DataW H) : Rows.uptoBulk (k3 d) ≤ Rows.uptoBulk d := bulk_in d _ (fun _ h => List.mem_of_mem_drop (List.mem_of_mem_drop (List.mem_of_mem_drop h))) 0
theorem bk4 (d : DataW H) : Rows.uptoBulk (k4 d) ≤ Rows.uptoBulk d := bulk_in d _ (fun _ h => List.mem_of_mem_drop (List.mem_of_mem_drop (List.mem_of_mem_drop (List.mem_of_mem_drop h)))) 0
theorem bkn (d : DataW H) : (kids d).length ≤ Rows.uptoBulk d := Nat.le_trans (bulk_len (kids d)) (bulk_kids d)

def gVal (d : DataW H) : List D := catG [fun d => [.i .i64 (intOf d)], fun d => [.s (strOf d)], fun d => [.i .u64 (wordOf d : Nat)]] (kids d)
def gAtt (d : DataW H) : List D := catG [fun d => [.s (strOf d)], gVal] (kids d)
def gPath (d : DataW H) : List D := [.sl 2 (kids d).length (fun i => gPt ((kids d).getD i .nil))]
def gPaths (d : DataW H) : List D := [.sl 1 (kids d).length (fun i => gPath ((kids d).getD i .nil))]
def gAtts (d : DataW H) : List D := [.sl 4 (kids d).length (fun i => gAtt ((kids d).getD i .nil))]
def gFeat (d : DataW H) : List D := catG [fun d => [.b (boolOf d)], fun d => [.i .u64 (wordOf d : Nat)], fun d => [.i .i64 (intOf d)], gPaths, gAtts] (kids d)
def gFeats (d : DataW H) : List D := [.sl 5 (kids d).length (fun i => gFeat ((kids d).getD i .nil))]
def gLay (d : DataW H) : List D := catG [fun d => [.s (strOf d)], fun d => [.i .i64 (numOf d)], gFeats] (kids d)

set_option maxRecDepth 100000 in
theorem tells_att : Tells enc W 79 4 (gAtt (H := H)) :=
  tells_struct Tryd.underlying79 rfl (by kernel_rfl) (.cons _ _ 0 1 4 _ _ rfl (by kernel_rfl) (tells_str Tryd.underlying9) (.cons _ _ 1 3 4 _ _ rfl (by kernel_rfl) tells_value (.nil 4)))

set_option maxRecDepth 100000 in
theorem tells_feat : Tells enc W 51 5 (gFeat (H := H)) :=
  tells_struct Tryd.underlying51 rfl (by kernel_rfl) (.cons _ _ 0 1 5 _ _ rfl (by kernel_rfl) (tells_bool Tryd.underlying4) (.cons _ _ 1 1 5 _ _ rfl (by kernel_rfl) (tells_word Tryd.underlying25)
    (.cons _ _ 2 1 5 _ _ rfl (by kernel_rfl) (tells_int Tryd.underlying3) (.cons _ _ 3 1 5 _ _ rfl (by kernel_rfl) (tells_slice Tryd.underlying48 (by kernel_rfl) (by omega) (tells_slice Tryd.underlying24 (by kernel_rfl) (by omega) tells_pt))
      (.cons _ _ 4 1 5 _ _ rfl (by kernel_rfl) (tells_slice Tryd.underlying49 (by kernel_rfl) (by omega) tells_att) (.nil 5))))))

set_option maxRecDepth 100000 in
theorem tells_layer : Tells enc W 44 3 (gLay (H := H)) :=
  tells_struct Tryd.underlying44 rfl (by kernel_rfl) (.cons _ _ 0 1 3 _ _ rfl (by kernel_rfl) (tells_str Tryd.underlying9) (.cons _ _ 1 1 3 _ _ rfl (by kernel_rfl) (tells_num Tryd.underlying3)
    (.cons _ _ 2 1 3 _ _ rfl (by kernel_rfl) (tells_slice Tryd.underlying42 (by kernel_rfl) (by omega) tells_feat) (.nil 3))))

def attOf (d : DataW H) : Att := (strOf (k0 d), intOf (k0 (k1 d)), strOf (k1 (k1 d)), ((wordOf (k2 (k1 d)) : Nat) : Int))
def featOf (d : DataW H) : FeatR := ⟨boolOf (k0 d), wordOf (k1 d), intOf (k2 d), (kids (k3 d)).map ptsOf, (kids (k4 d)).map attOf⟩

theorem atts_told (d : DataW H) : gAtts d = [.sl 4 ((kids d).map attOf).length (attF ((kids d).map attOf))] := by
  have h2 : (fun i => gAtt ((kids d).getD i .nil)) = attF ((kids d).map attOf) := by
    funext i
    have e0 : attOf (DataW.nil : DataW H) = dA := rfl
    have e : ((kids d).map attOf).getD i dA = attOf ((kids d).getD i .nil) := by rw [← e0]; exact map_getD attOf (kids d) .nil i
    unfold attF
    rw [e]
    rfl
  show [D.sl 4 (kids d).length (fun i => gAtt ((kids d).getD i .nil))] = _
  rw [h2, List.length_map]

theorem paths_told (d : DataW H) : gPaths d = [.sl 1 ((kids d).map ptsOf).length (pgF ((kids d).map ptsOf))] := by
  have h2 : (fun i => gPath ((kids d).getD i .nil)) = pgF ((kids d).map ptsOf) := by
    funext i
    have e0 : ptsOf (DataW.nil : DataW H) = [] := rfl
    have e : ((kids d).map ptsOf).getD i [] = ptsOf ((kids d).getD i .nil) := by rw [← e0]; exact map_getD ptsOf (kids d) .nil i
    unfold pgF pthF
    dsimp only
    rw [e]
    show [D.sl 2 _ _] = _
    rw [pts_told]
    rfl
  show [D.sl 1 (kids d).length (fun i => gPath ((kids d).getD i .nil))] = _
  rw [h2, List.length_map]

theorem feat_told (d : DataW H) : gFeat d = featC (featOf d) := by
  show [D.b (boolOf (k0 d))] ++ ([D.i .u64 (wordOf (k1 d) : Nat)] ++ ([D.i .i64 (intOf (k2 d))] ++ (gPaths (k3 d) ++ (gAtts (k4 d) ++ [])))) = _
  rw [paths_told, atts_told]
  rfl

theorem feats_told (d : DataW H) : gFeats d = [.sl 5 ((kids d).map featOf).length (ftsF ((kids d).map featOf))] := by
  have h2 : (fun i => gFeat ((kids d).getD i .nil)) = ftsF ((kids d).map featOf) := by
    funext i
    have e0 : featOf (DataW.nil : DataW H) = dFR := rfl
    have e : ((kids d).map featOf).getD i dFR = featOf ((kids d).getD i .nil) := by rw [← e0]; exact map_getD featOf (kids d) .nil i
    unfold ftsF
    rw [e, feat_told]
  show [D.sl 5 (kids d).length (fun i => gFeat ((kids d).getD i .nil))] = _
  rw [h2, List.length_map]

theorem lay_told (d : DataW H) : gLay d = layC (strOf (k0 d)) (numOf (k1 d)) ((kids (k2 d)).map featOf) := by
  show [D.s (strOf (k0 d))] ++ ([D.i .i64 (numOf (k1 d))] ++ (gFeats (k2 d) ++ [])) = _
  rw [feats_told]
  rfl

theorem featSm_of {d : DataW H} (h : Rows.uptoBulk d ≤ 1048576) : FeatSm (featOf d) := by
  have h3 := bk3 d
  have h4 := bk4 d
  refine ⟨wordOf_lt _, ?_, fun i => ?_, ?_, fun i => ?_⟩
  · show ((kids (k3 d)).map ptsOf).length ≤ _
    have := bkn (k3 d)
    rw [List.length_map]
    omega
  · show ptsOk (((kids (k3 d)).map ptsOf).getD i [])
    have e0 : ptsOf (DataW.nil : DataW H) = [] := rfl
    rw [show ((kids (k3 d)).map ptsOf).getD i [] = ptsOf ((kids (k3 d)).getD i .nil) by rw [← e0]; exact map_getD ptsOf _ .nil i]
    have := bk0 (k3 d) i
    exact ptsOf_ok (by omega)
  · show ((kids (k4 d)).map attOf).length ≤ _
    have := bkn (k4 d)
    rw [List.length_map]
    omega
  · show (((kids (k4 d)).map attOf).getD i dA).1.length ≤ _ ∧ (((kids (k4 d)).map attOf).getD i dA).2.2.1.length ≤ _ ∧ 0 ≤ (((kids (k4 d)).map attOf).getD i dA).2.2.2 ∧ (((kids (k4 d)).map attOf).getD i dA).2.2.2 < _
    have e0 : attOf (DataW.nil : DataW H) = dA := rfl
    rw [show ((kids (k4 d)).map attOf).getD i dA = attOf ((kids (k4 d)).getD i .nil) by rw [← e0]; exact map_getD attOf _ .nil i]
    have hb := bk0 (k4 d) i
    generalize (kids (k4 d)).getD i .nil = a at *
    have a0 := bulk_str (k0 a)
    have a1 : Rows.uptoBulk (k0 a) ≤ Rows.uptoBulk a := bk0 a 0
    have a2 := bk1 a
    have a3 := bulk_str (k1 (k1 a))
    have a4 := bk1 (k1 a)
    have a5 := wordOf_lt (k2 (k1 a))
    refine ⟨?_, ?_, ?_, ?_⟩
    · show (strOf (k0 a)).length ≤ _
      omega
    · show (strOf (k1 (k1 a))).length ≤ _
      omega
    · show (0 : Int) ≤ ((wordOf (k2 (k1 a)) : Nat) : Int)
      omega
    · show ((wordOf (k2 (k1 a)) : Nat) : Int) < _
      omega

set_option maxRecDepth 100000 in
theorem arg_layer {base : Nat} {v : Value} {d : DataW H} {ps : List MemPlace} (hv : Value.okWide Tryd.prog W .any base 44 v) (h : DataW.Trod enc Tryd.prog W 0 (fun _ => true) true 44 v d ps) (hb : Rows.uptoBulk d ≤ 1048576) :
    ∃ (name : List UInt8) (ext : Int) (l : List FeatR), name.length ≤ 1048576 ∧ I64 ext ∧ l.length ≤ 1048576 ∧ (∀ i, FeatSm (l.getD i dFR)) ∧ Rel (allOf W) W noRho (.ag (layC name ext l)) v := by
  have k := arg_struct (enc := enc) Tryd.underlying44 tells_layer hv h
  rw [lay_told] at k
  refine ⟨_, _, _, ?_, numOf_in _, ?_, fun i => ?_, k⟩
  · have := bulk_str (k0 d)
    have : Rows.uptoBulk (k0 d) ≤ Rows.uptoBulk d := bk0 d 0
    omega
  · have := bk2 d
    have := bkn (k2 d)
    rw [List.length_map]
    omega
  · have e0 : featOf (DataW.nil : DataW H) = dFR := rfl
    rw [show ((kids (k2 d)).map featOf).getD i dFR = featOf ((kids (k2 d)).getD i .nil) by rw [← e0]; exact map_getD featOf _ .nil i]
    have := bk2 d
    have := bk0 (k2 d) i
    exact featSm_of (by omega)
end

end Go.Proofs.YtinjdlckhmkmaaaDoor.Flow

/- LAID: the package-level tables that a row lists lie in memory as they are told. -/
namespace Go.Proofs.YtinjdlckhmkmaaaDoor.Flow
open Go.ChangeShapes Go.WideShapes Go.ChangeAt Go.RowKit

set_option maxRecDepth 100000

section
variable {H : Type}
mutual
/-- The cells of a datum of numbers, truths and texts. -/
def flatD : DataW H → List Value
  | .lit (.int k n) => [.int k n]
  | .lit (.bool b) => [.bool b]
  | .lit (.string l) => [.string ⟨l.toArray⟩]
  | .agg ps => flatDs ps
  | _ => []
def flatDs : List (DataW H) → List Value
  | [] => []
  | d :: r => flatD d ++ flatDs r
end
end

/-- Whatever reads as data of this type has these cells. -/
def Reads (t : TypeId) (z : Nat) : Prop :=
  ∀ (W : World) held fuel cs x, DataW.trod (fun _ => ()) Tryd.prog W 0 (fun _ => true) held fuel t cs = some x → cs.length = z ∧ cs = flatD x.1

theorem reads_int {t : TypeId} {k : IntKind} (ht : Tryd.prog.underlying t = some (.int k)) : Reads t 1 := fun W held fuel cs x h => by
  obtain ⟨n, rfl, rfl, _⟩ := DataW.trod_int ht h
  exact ⟨rfl, by simp [flatD]⟩

theorem reads_array {t e z n m : Nat} (ht : Tryd.prog.underlying t = some (.array n e)) (hc : Tryd.prog.cellsOf e = z) (hm : Tryd.prog.cellsOf t = m) (hnm : n * z = m) (hG : Reads e z) : Reads t m := fun W held fuel cs x h => by
  obtain ⟨xs, k, rfl, rfl, hlen, hn, hf⟩ := DataW.trod_array ht h
  rw [hm] at hlen
  rw [hc] at hf
  refine ⟨hlen, ?_⟩
  have key : ∀ (n' : Nat) (ys : List (DataW Unit × List MemPlace)) (cs : List Value), ys.length = n' → cs.length = n' * z → (∀ i, i < n' → DataW.trod (fun _ => ()) Tryd.prog W 0 (fun _ => true) held k e ((cs.drop (i * z)).take z) = ys[i]?) →
      cs = flatDs (ys.map (·.1)) := by
    intro n'
    induction n' with
    | zero =>
      intro ys cs hy hcs _
      obtain rfl : ys = [] := List.length_eq_zero_iff.1 hy
      have : cs = [] := List.length_eq_zero_iff.1 (by omega)
      rw [this]
      simp [flatDs]
    | succ n' ih =>
      intro ys cs hy hcs hf
      match ys, hy with
      | y :: ys, hy =>
        have h0 := hf 0 (by omega)
        obtain ⟨k1, k2⟩ := hG _ _ _ _ _ h0
        rw [Nat.add_mul, Nat.one_mul] at hcs
        have h1 := ih ys (cs.drop z) (by simpa using hy) (by rw [List.length_drop]; omega) (fun i hi => by
          have := hf (i + 1) (by omega)
          rw [List.drop_drop]
          rwa [show z + i * z = (i + 1) * z by rw [Nat.add_mul]; omega])
        simp only [List.map_cons, flatDs]
        rw [← h1, ← k2]
        simp
  have := key n xs cs hn (by omega) hf
  rw [this]
  simp [flatD]

/-- A struct of two fields. -/
theorem reads_struct2 {t z1 z2 m : Nat} {fs : Array Field} {f1 f2 : Field} (ht : Tryd.prog.underlying t = some (.struct fs)) (hl : fs = #[f1, f2]) (hm : Tryd.prog.cellsOf t = m) (o1 : f1.offset = 0) (o2 : f2.offset = z1)
    (c1 : Tryd.prog.cellsOf f1.type = z1) (c2 : Tryd.prog.cellsOf f2.type = z2) (hz : z1 + z2 = m) (h1 : Reads f1.type z1) (h2 : Reads f2.type z2) : Reads t m := fun W held fuel cs x h => by
  subst hl
  obtain ⟨xs, k, rfl, rfl, hlen, hn, hf⟩ := DataW.trod_struct ht h
  rw [hm] at hlen
  refine ⟨hlen, ?_⟩
  match xs, hn with
  | [a, b], _ =>
    have e1 := hf 0 f1 rfl
    have e2 := hf 1 f2 rfl
    rw [o1, c1] at e1
    rw [o2, c2] at e2
    have r1 := (h1 _ _ _ _ _ e1).2
    have r2 := (h2 _ _ _ _ _ e2).2
    simp only [List.map_cons, List.map_nil, flatD, flatDs, List.append_nil]
    rw [← r1, ← r2]
    have : (cs.drop z1).take z2 = cs.drop z1 := List.take_of_length_le (by rw [List.length_drop]; omega)
    rw [this]
    simp

theorem laid_var {W : World} {name : String} {d : DataW Unit} : ∀ {laid : List (String × DataW Unit)} {ps : List MemPlace}, DataW.LaidVars Tryd.prog W laid ps → (name, d) ∈ laid →
    ∃ g t cs fuel p, Tryd.prog.globalNamed name = some g ∧ (Tryd.prog.globals[g]?).map (·.type) = some t ∧ W.var? Tryd.prog name = some cs ∧ DataW.trod (fun _ => ()) Tryd.prog W 0 (fun _ => true) false fuel t cs.toList = some (d, p)
  | [], _, _, hm => by cases hm
  | (n, e) :: r, ps, h, hm => by
    obtain ⟨g, t, cs, fuel, p, q, h1, h2, h3, h4, h5, _⟩ := h
    rcases List.mem_cons.1 hm with he | hm
    · cases he
      exact ⟨g, t, cs, fuel, p, h1, h2, h3, h4⟩
    · exact laid_var h5 hm

theorem cell_valid {W : World} {b o : Nat} {c : Value} (h : W.cell? ⟨b, o, none⟩ = some c) : b < W.heap.size := by
  by_cases hb : b < W.heap.size
  · exact hb
  · have : W.heap[b]? = none := by simp; omega
    simp [World.cell?, this] at h

/-- A table that a row lists. -/
theorem rn_of_laid {W : World} {laid : List (String × DataW Unit)} {name : String} {d : DataW Unit} {g t z : Nat} {k : IntKind} {f : Nat → Int} (h : laidMet Tryd.prog laid W) (hm : (name, d) ∈ laid) (hg : Tryd.prog.globalNamed name = some g)
    (ht : (Tryd.prog.globals[g]?).map (·.type) = some t) (hr : Reads t z) (hf : flatD d = (List.range z).map fun j => .int k (f j)) : Rel (allOf W) W noRho (.rn k z f 0) (.pointer (some ⟨g, 0, none⟩)) := by
  obtain ⟨ps, hl, _⟩ := h
  obtain ⟨g', t', cs, fuel, p, h1, h2, h3, h4⟩ := laid_var hl hm
  obtain rfl := Option.some.inj (hg.symm.trans h1)
  obtain rfl := Option.some.inj (ht.symm.trans h2)
  obtain ⟨h5, h6⟩ := hr _ _ _ _ _ h4
  refine .rn _ _ _ _ _ _ fun j hj => ?_
  have : W.cell? ⟨g, j, none⟩ = some (.int k (f j)) := by
    rw [World.var?_cell hg h3 j]
    have e : cs[j]? = cs.toList[j]? := by simp
    rw [e, h6, hf]
    simp [hj]
  exact ⟨cell_valid this, this⟩

theorem len_of_laid {W : World} {laid : List (String × DataW Unit)} {name : String} {d : DataW Unit} {g t z : Nat} (h : laidMet Tryd.prog laid W) (hm : (name, d) ∈ laid) (hg : Tryd.prog.globalNamed name = some g)
    (ht : (Tryd.prog.globals[g]?).map (·.type) = some t) (hr : Reads t (z + 1)) : allOf W g (z + 1) ∧ W.cell? ⟨g, z + 1, none⟩ = none := by
  obtain ⟨ps, hl, _⟩ := h
  obtain ⟨g', t', cs, fuel, p, h1, h2, h3, h4⟩ := laid_var hl hm
  obtain rfl := Option.some.inj (hg.symm.trans h1)
  obtain rfl := Option.some.inj (ht.symm.trans h2)
  obtain ⟨h5, h6⟩ := hr _ _ _ _ _ h4
  have hs : cs.size = z + 1 := by simpa using h5
  have h7 : W.cell? ⟨g, 0, none⟩ = cs[0]? := World.var?_cell hg h3 0
  rw [Array.getElem?_eq_getElem (by omega)] at h7
  refine ⟨cell_valid h7, ?_⟩
  rw [World.var?_cell hg h3 (z + 1)]
  simp [hs]

end Go.Proofs.YtinjdlckhmkmaaaDoor.Flow

/- LAID: this seat's tables (Go's two of UTF-8, the powers of ten, the zeros of powers of two) lie as they are told, wherever a row's condition holds. -/
namespace Go.Proofs.YtinjdlckhmkmaaaDoor.Flow
open Go.ChangeShapes Go.WideShapes Go.ChangeAt Go.RowKit

set_option maxRecDepth 100000

abbrev seatLaid : List (String × DataW Unit) := [("math/bits.deBruijn32tab", Rows.laid_math_bits_deBruijn32tab), ("math/bits.deBruijn64tab", Rows.laid_math_bits_deBruijn64tab), ("internal/strconv.uint64pow10", Rows.laid_internal_strconv_uint64pow10), ("unicode/utf8.acceptRanges", Rows.laid_unicode_utf8_acceptRanges), ("unicode/utf8.first", Rows.laid_unicode_utf8_first)]

theorem reads_first : Reads 108 256 := reads_array (n := 256) (z := 1) Tryd.underlying108 (by kernel_rfl) (by kernel_rfl) rfl (reads_int Tryd.underlying5)
theorem reads_acc : Reads 111 32 := reads_array (n := 16) (z := 2) Tryd.underlying111 (by kernel_rfl) (by kernel_rfl) rfl
  (reads_struct2 (z1 := 1) (z2 := 1) Tryd.underlying110 rfl (by kernel_rfl) rfl rfl (by kernel_rfl) (by kernel_rfl) rfl (reads_int Tryd.underlying5) (reads_int Tryd.underlying5))
theorem reads_pow : Reads 149 20 := reads_array (n := 20) (z := 1) Tryd.underlying149 (by kernel_rfl) (by kernel_rfl) rfl (reads_int Tryd.underlying25)

theorem reads_db : Reads 154 64 := reads_array (n := 64) (z := 1) Tryd.underlying154 (by kernel_rfl) (by kernel_rfl) rfl (reads_int Tryd.underlying5)

theorem gok_of_laid {W : World} (h0 : laidMetH Tryd.prog seatLaid W) (hb : ∀ g, globSome g = true → ∃ m, allOf W g 0 ∧ W.cell? ⟨g, 0, none⟩ = some (.int .i64 m) := by intro g h; cases h) : GOk (allOf W) W := by
  rw [MakeChecks.laidMetH_plain _ _ _ (by kernel_rfl)] at h0
  refine ⟨fun g => ?_, fun g n hn => ?_, hb⟩
  · by_cases e0 : g = 0
    · subst e0
      exact rn_of_laid (name := "unicode/utf8.first") (d := Rows.laid_unicode_utf8_first) h0 (by simp) (by kernel_rfl) (by kernel_rfl) reads_first (by kernel_rfl)
    · by_cases e1 : g = 1
      · subst e1
        exact rn_of_laid (name := "unicode/utf8.acceptRanges") (d := Rows.laid_unicode_utf8_acceptRanges) h0 (by simp) (by kernel_rfl) (by kernel_rfl) reads_acc (by kernel_rfl)
      · by_cases e2 : g = 3
        · subst e2
          exact rn_of_laid (name := "internal/strconv.uint64pow10") (d := Rows.laid_internal_strconv_uint64pow10) h0 (by simp) (by kernel_rfl) (by kernel_rfl) reads_pow (by kernel_rfl)
        · by_cases e3 : g = 5
          · subst e3
            exact rn_of_laid (name := "math/bits.deBruijn64tab") (d := Rows.laid_math_bits_deBruijn64tab) h0 (by simp) (by kernel_rfl) (by kernel_rfl) reads_db (by kernel_rfl)
          · have e : glob g = .any := by
              unfold glob
              split <;> first | rfl | (exfalso; omega)
            rw [e]
            exact .any ..
  · unfold globLen at hn
    split at hn
    · cases hn
      first | exact len_of_laid (name := "unicode/utf8.first") (d := Rows.laid_unicode_utf8_first) h0 (by simp) (by kernel_rfl) (by kernel_rfl) reads_first | exact len_of_laid (name := "unicode/utf8.acceptRanges") (d := Rows.laid_unicode_utf8_acceptRanges) h0 (by simp) (by kernel_rfl) (by kernel_rfl) reads_acc
    · cases hn
      first | exact len_of_laid (name := "unicode/utf8.acceptRanges") (d := Rows.laid_unicode_utf8_acceptRanges) h0 (by simp) (by kernel_rfl) (by kernel_rfl) reads_acc | exact len_of_laid (name := "unicode/utf8.first") (d := Rows.laid_unicode_utf8_first) h0 (by simp) (by kernel_rfl) (by kernel_rfl) reads_first
    · cases hn
      exact len_of_laid (name := "internal/strconv.uint64pow10") (d := Rows.laid_internal_strconv_uint64pow10) h0 (by simp) (by kernel_rfl) (by kernel_rfl) reads_pow
    · cases hn
      exact len_of_laid (name := "math/bits.deBruijn64tab") (d := Rows.laid_math_bits_deBruijn64tab) h0 (by simp) (by kernel_rfl) (by kernel_rfl) reads_db
    · cases hn

end Go.Proofs.YtinjdlckhmkmaaaDoor.Flow
