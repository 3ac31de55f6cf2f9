/- The texts R23, R24, R6, FlowQ, FlowR, T12, R7, FlowV, LibsB, BW, R10, R11, R12, R13, R14, R25, one behind the other. -/
import Derived.Test.YtinjdlckhmkmaaaDoorPkA3
import Derived.Test.YtinjdlckhmkmaaaDoorPkA4
import Derived.Test.YtinjdlckhmkmaaaDoorPkA8
import Derived.Test.YtinjdlckhmkmaaaDoorPkA9
import Derived.Test.YtinjdlckhmkmaaaDoorRows
import Derived.ProofKit
import Derived.OpenShut
import Derived.JoinedCond
import Derived.Lib.UnsafeStr
import Derived.Lib.ReplaceLaws
/- REPORT: an archive's header: Head, by the reference. -/
namespace Go.Proofs.YtinjdlckhmkmaaaDoor.Flow
open Go

/-- So many of the words that a header begins with. -/
def wC (F : Nat → Nat) (i : Nat) : List D := (List.range 11).map fun j => if j < i then .i .u64 (F (8 + 8 * j) : Nat) else .i .u64 0

theorem wC_len (F : Nat → Nat) (i : Nat) : (wC F i).length = 11 := by simp [wC]
theorem wC_put (F : Nat → Nat) (i : Nat) (h : i < 11) : putCells (wC F i) i [.i .u64 (F (8 + 8 * i) : Nat)] = wC F (i + 1) := by
  apply List.ext_getElem?
  intro j
  rw [put_get (by rw [wC_len]; omega)]
  unfold wC
  simp only [List.getElem?_map]
  by_cases hj : j < 11
  · simp only [List.getElem?_range hj, Option.map_some]
    by_cases h1 : j = i
    · subst h1
      rw [if_pos rfl, if_pos (by omega)]
    · rw [if_neg h1]
      by_cases h2 : j < i
      · rw [if_pos h2, if_pos (by omega)]
      · rw [if_neg h2, if_neg (by omega)]
  · rw [if_neg (by omega), List.getElem?_eq_none (by simpa using hj)]
    rfl
theorem wC_all (F : Nat → Nat) : wC F 11 = [.i .u64 (F 8 : Nat), .i .u64 (F 16 : Nat), .i .u64 (F 24 : Nat), .i .u64 (F 32 : Nat), .i .u64 (F 40 : Nat), .i .u64 (F 48 : Nat), .i .u64 (F 56 : Nat), .i .u64 (F 64 : Nat), .i .u64 (F 72 : Nat), .i .u64 (F 80 : Nat), .i .u64 (F 88 : Nat)] := rfl
theorem wC_zero (F : Nat → Nat) : wC F 0 = List.replicate 11 (.i .u64 0) := rfl

set_option maxRecDepth 100000 in
set_option maxHeartbeats 4000000 in
theorem rhead_ctrA (b : List UInt8) (hl : b.length ≤ 1048576) : Ctr Tryd.prog 41 [bD b] (.tu [.ag (hdC (headS b).1), .i .i64 (headS b).2]) := by
  have f5 := @headS_5 b
  have f2 := @headS_2 b
  have f3 := @headS_3 b
  have f0 := @headS_0 b
  have fe := @headS_e b
  generalize hS : headS b = S at *
  have hb7 : ¬ b.length < 127 → bytesOf (7 - 0) (fun i => bytesF b (0 + i)) = b.take 7 := fun h => bytes_take b 7 (by omega)
  by_cases hlen : b.length < 127
  · obtain rfl := f2 hlen
    refine r_fun Tryd.func41 rfl Tryd.ntmps41 Tryd.results41 rfl rfl fun X hL hX => ?_
    repeat' (first
      | with_reducible refine t_seq ?_ | with_reducible refine t_region ?_ | with_reducible refine c_nil ?_ | with_reducible refine n_then ?_
      | with_reducible refine t_ret ?_ | with_reducible refine t_skip ?_ | with_reducible refine t_exit ?_ | with_reducible refine t_block ?_
      | with_reducible refine n_block ?_ | with_reducible refine e_then ?_ | with_reducible refine x_then ?_ | with_reducible refine x_block ?_ | with_reducible refine t_draw ?_
      | refine r_val rfl rfl True.intro ?_ | refine r_gskip rfl rfl rfl ?_ | refine r_gskip2 rfl rfl rfl ?_ | refine r_gval rfl rfl rfl rfl True.intro ?_
      | refine t_true rfl ?_ | refine t_false rfl ?_
      | ((first | refine t_cond_d rfl (fun _ => ?_) (fun _ => ?_) | refine t_cond_i rfl (fun _ => ?_) (fun _ => ?_) | refine t_cond_j rfl (fun _ => ?_) (fun _ => ?_) | refine t_cond_s rfl (fun _ => ?_) (fun _ => ?_) | refine t_cond_n rfl (fun _ => ?_) (fun _ => ?_) | refine t_cond rfl (fun _ => ?_) (fun _ => ?_) | refine c_split_d rfl rfl (fun _ => ?_) (fun _ => ?_) | refine c_split_i rfl rfl (fun _ => ?_) (fun _ => ?_) | refine c_split_j rfl rfl (fun _ => ?_) (fun _ => ?_) | refine c_split_s rfl rfl (fun _ => ?_) (fun _ => ?_) | refine c_split_n rfl rfl (fun _ => ?_) (fun _ => ?_)) <;> try (first | (rename_i hz; exact Bool.noConfusion (show true = false from hz)) | (rename_i hz; exact Bool.noConfusion (show false = true from hz)) | (exfalso; omega)))
      | refine r_val rfl rfl (by (first | omega | exact Nat.le_of_ble_eq_true rfl | (simp only [wrap_u8, IntKind.wrap_i64, IntKind.wrap_i32, wrap_u32', wrap_u64', InI]; (repeat' refine And.intro ?_ ?_) <;> omega) | ((repeat' refine And.intro ?_ ?_) <;> first | omega | rfl | exact Nat.le_refl _ | exact Nat.le_of_ble_eq_true rfl | exact bytesF_one _) | (simp_all; done) | (simp_all; omega))) ?_ | refine r_gval rfl rfl rfl rfl (by (first | omega | exact Nat.le_of_ble_eq_true rfl | (simp only [wrap_u8, IntKind.wrap_i64, IntKind.wrap_i32, wrap_u32', wrap_u64', InI]; (repeat' refine And.intro ?_ ?_) <;> omega) | ((repeat' refine And.intro ?_ ?_) <;> first | omega | rfl | exact Nat.le_refl _ | exact Nat.le_of_ble_eq_true rfl | exact bytesF_one _) | (simp_all; done) | (simp_all; omega))) ?_
      | refine r_obj rfl rfl (by (first | omega | exact Nat.le_of_ble_eq_true rfl | (simp only [wrap_u8, IntKind.wrap_i64, IntKind.wrap_i32, wrap_u32', wrap_u64', InI]; (repeat' refine And.intro ?_ ?_) <;> omega) | ((repeat' refine And.intro ?_ ?_) <;> first | omega | rfl | exact Nat.le_refl _ | exact Nat.le_of_ble_eq_true rfl | exact bytesF_one _) | (simp_all; done) | (simp_all; omega))) ?_ | refine r_sto rfl (by (first | omega | exact Nat.le_of_ble_eq_true rfl | (simp only [wrap_u8, IntKind.wrap_i64, IntKind.wrap_i32, wrap_u32', wrap_u64', InI]; (repeat' refine And.intro ?_ ?_) <;> omega) | ((repeat' refine And.intro ?_ ?_) <;> first | omega | rfl | exact Nat.le_refl _ | exact Nat.le_of_ble_eq_true rfl | exact bytesF_one _) | (simp_all; done) | (simp_all; omega))) ?_ | refine r_gobj rfl rfl rfl rfl (by (first | omega | exact Nat.le_of_ble_eq_true rfl | (simp only [wrap_u8, IntKind.wrap_i64, IntKind.wrap_i32, wrap_u32', wrap_u64', InI]; (repeat' refine And.intro ?_ ?_) <;> omega) | ((repeat' refine And.intro ?_ ?_) <;> first | omega | rfl | exact Nat.le_refl _ | exact Nat.le_of_ble_eq_true rfl | exact bytesF_one _) | (simp_all; done) | (simp_all; omega))) ?_
      | refine e_hit rfl ?_ | refine e_miss rfl ?_
      | refine ⟨by kernel_rfl, ?_⟩ | refine x_end rfl ?_ | ((with_reducible refine c_grd ?_); (fail_if_success (refine c_lit true rfl rfl rfl ?_)); (fail_if_success (refine c_lit false rfl rfl rfl ?_)); refine c_split rfl rfl (fun _ => ?_) (fun _ => ?_)))
    all_goals rfl
  · have hb7 := hb7 hlen
    have f3 := f3 (by omega) hlen
    have f0 := f0 (by omega) hlen
    have fe := fe (by omega) hlen
    have hms := mag_split (b := b) (by omega)
    by_cases hm : b.take 8 = mag8 ∧ byI b 96 ≤ 1
    · have f0 := f0 hm
      have fe := fe hm
      obtain ⟨m1, m2⟩ := hm
      obtain ⟨m7, m3⟩ := hms.1 m1
      have m2' : ¬ (1 : Int) < byI b 96 := by omega
      have c2 := rhright_ctr (hdrOf b) b.length (hdr_in b) (by omega) (by omega)
      obtain ⟨F, hF⟩ : ∃ F : Nat → Nat, ∀ p, leN b p 8 = F p := ⟨_, fun _ => rfl⟩
      obtain ⟨G, hG⟩ : ∃ G : Nat → Int, ∀ p, sg4 b p = G p := ⟨_, fun _ => rfl⟩
      have e : hdC (hdrOf b) = [.i .u64 (F 8 : Nat), .i .u64 (F 16 : Nat), .i .u64 (F 24 : Nat), .i .u64 (F 32 : Nat), .i .u64 (F 40 : Nat), .i .u64 (F 48 : Nat), .i .u64 (F 56 : Nat), .i .u64 (F 64 : Nat), .i .u64 (F 72 : Nat), .i .u64 (F 80 : Nat), .i .u64 (F 88 : Nat), .b (byI b 96 == 1), .i .i64 (byW b 97), .i .i64 (byW b 98), .i .i64 (byW b 99), .i .i64 (byW b 100), .i .i64 (byW b 101), .i .i64 (G 102), .i .i64 (G 106), .i .i64 (G 110), .i .i64 (G 114), .i .i64 (G 119), .i .i64 (G 123), .i .i64 (byW b 118)] := by
        unfold hdC hdrOf
        simp only [hF, hG]
      rw [e] at c2
      have cN : ∀ i : Nat, i < 11 → Ctr Tryd.prog 61 [bD b, .i .i64 (8 + 8 * (i : Int)), .i .i64 8] (.i .u64 (F (8 + 8 * i) : Nat)) := fun i hi => by
        have := rnumb_ctr b (8 + 8 * i) 8 (by omega) (by omega) (by omega)
        rw [hF, show ((8 + 8 * i : Nat) : Int) = 8 + 8 * (i : Int) by omega] at this
        exact this
      have cS : ∀ p : Nat, p + 4 ≤ b.length → Ctr Tryd.prog 62 [bD b, .i .i64 p] (.i .i64 (G p)) := fun p hp => by
        have := rsigned_ctr b p hp (by omega)
        rwa [hG] at this
      have s1 := cS 102 (by omega)
      have s2 := cS 106 (by omega)
      have s3 := cS 110 (by omega)
      have s4 := cS 114 (by omega)
      have s5 := cS 119 (by omega)
      have s6 := cS 123 (by omega)
      clear cS hG f3 hms m1
      have hE : ∀ d : D, rgt (hdrOf b) b.length = 0 → D.tu [.ag (hdC (hdrOf b)), .i .i64 0] = d → d = .tu [.ag (hdC S.1), .i .i64 S.2] := fun d h1 h2 => by rw [← h2, f0 h1]
      rw [e] at hE
      generalize rgt (hdrOf b) b.length = R at *
      refine r_fun Tryd.func41 rfl Tryd.ntmps41 Tryd.results41 rfl rfl fun X hL hX => ?_
      repeat' (first
        | refine r_arrv (List.replicate 11 (.i .u64 0)) 11 rfl rfl rfl rfl rfl ?_
        | with_reducible refine t_seq ?_ | with_reducible refine t_region ?_ | with_reducible refine c_nil ?_ | with_reducible refine n_then ?_
        | with_reducible refine t_ret ?_ | with_reducible refine t_skip ?_ | with_reducible refine t_exit ?_ | with_reducible refine t_block ?_
        | with_reducible refine n_block ?_ | with_reducible refine e_then ?_ | with_reducible refine x_then ?_ | with_reducible refine x_block ?_ | with_reducible refine t_draw ?_
        | refine r_val rfl rfl True.intro ?_ | refine r_gskip rfl rfl rfl ?_ | refine r_gskip2 rfl rfl rfl ?_ | refine r_gval rfl rfl rfl rfl True.intro ?_
        | refine t_true rfl ?_ | refine t_false rfl ?_
        | ((first | refine t_cond_d rfl (fun _ => ?_) (fun _ => ?_) | refine t_cond_i rfl (fun _ => ?_) (fun _ => ?_) | refine t_cond_j rfl (fun _ => ?_) (fun _ => ?_) | refine t_cond_s rfl (fun _ => ?_) (fun _ => ?_) | refine t_cond_n rfl (fun _ => ?_) (fun _ => ?_) | refine t_cond rfl (fun _ => ?_) (fun _ => ?_) | refine c_split_d rfl rfl (fun _ => ?_) (fun _ => ?_) | refine c_split_i rfl rfl (fun _ => ?_) (fun _ => ?_) | refine c_split_j rfl rfl (fun _ => ?_) (fun _ => ?_) | refine c_split_s rfl rfl (fun _ => ?_) (fun _ => ?_) | refine c_split_n rfl rfl (fun _ => ?_) (fun _ => ?_)) <;> try (first | (rename_i hz; exact Bool.noConfusion (show true = false from hz)) | (rename_i hz; exact Bool.noConfusion (show false = true from hz)) | (exfalso; omega)))
        | refine r_val rfl rfl (by (first | (exact ⟨rfl, fun i hi => ⟨_, rfl⟩⟩) | omega | exact Nat.le_of_ble_eq_true rfl | (simp only [wrap_u8, IntKind.wrap_i64, IntKind.wrap_i32, wrap_u32', wrap_u64', InI]; (repeat' refine And.intro ?_ ?_) <;> omega) | ((repeat' refine And.intro ?_ ?_) <;> first | omega | rfl | exact Nat.le_refl _ | exact Nat.le_of_ble_eq_true rfl | exact bytesF_one _) | (simp_all; done) | (simp_all; omega))) ?_ | refine r_gval rfl rfl rfl rfl (by (first | (exact ⟨rfl, fun i hi => ⟨_, rfl⟩⟩) | omega | exact Nat.le_of_ble_eq_true rfl | (simp only [wrap_u8, IntKind.wrap_i64, IntKind.wrap_i32, wrap_u32', wrap_u64', InI]; (repeat' refine And.intro ?_ ?_) <;> omega) | ((repeat' refine And.intro ?_ ?_) <;> first | omega | rfl | exact Nat.le_refl _ | exact Nat.le_of_ble_eq_true rfl | exact bytesF_one _) | (simp_all; done) | (simp_all; omega))) ?_
        | refine r_obj rfl rfl (by (first | (exact ⟨rfl, fun i hi => ⟨_, rfl⟩⟩) | omega | exact Nat.le_of_ble_eq_true rfl | (simp only [wrap_u8, IntKind.wrap_i64, IntKind.wrap_i32, wrap_u32', wrap_u64', InI]; (repeat' refine And.intro ?_ ?_) <;> omega) | ((repeat' refine And.intro ?_ ?_) <;> first | omega | rfl | exact Nat.le_refl _ | exact Nat.le_of_ble_eq_true rfl | exact bytesF_one _) | (simp_all; done) | (simp_all; omega))) ?_ | refine r_sto rfl (by (first | (exact ⟨rfl, fun i hi => ⟨_, rfl⟩⟩) | omega | exact Nat.le_of_ble_eq_true rfl | (simp only [wrap_u8, IntKind.wrap_i64, IntKind.wrap_i32, wrap_u32', wrap_u64', InI]; (repeat' refine And.intro ?_ ?_) <;> omega) | ((repeat' refine And.intro ?_ ?_) <;> first | omega | rfl | exact Nat.le_refl _ | exact Nat.le_of_ble_eq_true rfl | exact bytesF_one _) | (simp_all; done) | (simp_all; omega))) ?_ | refine r_gobj rfl rfl rfl rfl (by (first | (exact ⟨rfl, fun i hi => ⟨_, rfl⟩⟩) | omega | exact Nat.le_of_ble_eq_true rfl | (simp only [wrap_u8, IntKind.wrap_i64, IntKind.wrap_i32, wrap_u32', wrap_u64', InI]; (repeat' refine And.intro ?_ ?_) <;> omega) | ((repeat' refine And.intro ?_ ?_) <;> first | omega | rfl | exact Nat.le_refl _ | exact Nat.le_of_ble_eq_true rfl | exact bytesF_one _) | (simp_all; done) | (simp_all; omega))) ?_
        | refine e_hit rfl ?_ | refine e_miss rfl ?_
        | refine ⟨by kernel_rfl, ?_⟩ | refine x_end rfl ?_ | ((with_reducible refine c_grd ?_); (fail_if_success (refine c_lit true rfl rfl rfl ?_)); (fail_if_success (refine c_lit false rfl rfl rfl ?_)); refine c_split rfl rfl (fun _ => ?_) (fun _ => ?_)))
      all_goals try (exfalso; exact m2' ‹_›)
      all_goals try (exfalso; exact absurd m3 ‹_›)
      all_goals try (
        exfalso
        rename_i q
        have q2 : ((bytesOf (7 - 0) fun i => bytesF b (0 + i)) == mag7) = false := q
        rw [hb7, m7] at q2
        exact absurd q2 (by decide))
      refine T.loop hL (fun i : Nat => [(0, bD b), (2, .pv 2 0), (4, .ap 4 11 1 0 0), (5, .i .i64 i)]) (fun i => [(2, .var (hdC hdZ)), (4, .arr 101 11 1 (fun _ => wC F i))])
        (fun i => i ≤ 11) (fun i => 11 - i) 0 (Nat.zero_le _) ⟨⟨rfl, rfl, rfl, rfl, trivial⟩, ⟨rfl, ⟨_, _, rfl, rfl, fun i hi => .inl rfl⟩, trivial⟩, rfl, by rw [hX]; intro k hk; cases hk⟩ ?_
      intro i g1
      by_cases hi : i < 11
      · have c1 := cN i hi
        have hp := wC_put F i hi
        have hwl := wC_len F i
        repeat' (first
          | with_reducible refine t_seq ?_ | with_reducible refine t_region ?_ | with_reducible refine c_nil ?_ | with_reducible refine n_then ?_
          | with_reducible refine t_ret ?_ | with_reducible refine t_skip ?_ | with_reducible refine t_exit ?_ | with_reducible refine t_block ?_
          | with_reducible refine n_block ?_ | with_reducible refine e_then ?_ | with_reducible refine x_then ?_ | with_reducible refine x_block ?_ | with_reducible refine t_draw ?_
          | refine r_val rfl rfl True.intro ?_ | refine r_gskip rfl rfl rfl ?_ | refine r_gskip2 rfl rfl rfl ?_ | refine r_gval rfl rfl rfl rfl True.intro ?_
          | refine t_true rfl ?_ | refine t_false rfl ?_
          | ((first | refine t_cond_d rfl (fun _ => ?_) (fun _ => ?_) | refine t_cond_i rfl (fun _ => ?_) (fun _ => ?_) | refine t_cond_j rfl (fun _ => ?_) (fun _ => ?_) | refine t_cond_s rfl (fun _ => ?_) (fun _ => ?_) | refine t_cond_n rfl (fun _ => ?_) (fun _ => ?_) | refine t_cond rfl (fun _ => ?_) (fun _ => ?_) | refine c_split_d rfl rfl (fun _ => ?_) (fun _ => ?_) | refine c_split_i rfl rfl (fun _ => ?_) (fun _ => ?_) | refine c_split_j rfl rfl (fun _ => ?_) (fun _ => ?_) | refine c_split_s rfl rfl (fun _ => ?_) (fun _ => ?_) | refine c_split_n rfl rfl (fun _ => ?_) (fun _ => ?_)) <;> try (first | (rename_i hz; exact Bool.noConfusion (show true = false from hz)) | (rename_i hz; exact Bool.noConfusion (show false = true from hz)) | (exfalso; omega)))
          | refine r_val rfl rfl (by (first | ((repeat' refine And.intro ?_ ?_) <;> first | omega | rfl | (simp only [D.cells, List.length_cons, List.length_nil, hwl]; omega)) | omega | exact Nat.le_of_ble_eq_true rfl | (simp only [wrap_u8, IntKind.wrap_i64, IntKind.wrap_i32, wrap_u32', wrap_u64', InI]; (repeat' refine And.intro ?_ ?_) <;> omega) | ((repeat' refine And.intro ?_ ?_) <;> first | omega | rfl | exact Nat.le_refl _ | exact Nat.le_of_ble_eq_true rfl | exact bytesF_one _) | (simp_all; done) | (simp_all; omega))) ?_ | refine r_gval rfl rfl rfl rfl (by (first | ((repeat' refine And.intro ?_ ?_) <;> first | omega | rfl | (simp only [D.cells, List.length_cons, List.length_nil, hwl]; omega)) | omega | exact Nat.le_of_ble_eq_true rfl | (simp only [wrap_u8, IntKind.wrap_i64, IntKind.wrap_i32, wrap_u32', wrap_u64', InI]; (repeat' refine And.intro ?_ ?_) <;> omega) | ((repeat' refine And.intro ?_ ?_) <;> first | omega | rfl | exact Nat.le_refl _ | exact Nat.le_of_ble_eq_true rfl | exact bytesF_one _) | (simp_all; done) | (simp_all; omega))) ?_
          | refine r_obj rfl rfl (by (first | ((repeat' refine And.intro ?_ ?_) <;> first | omega | rfl | (simp only [D.cells, List.length_cons, List.length_nil, hwl]; omega)) | omega | exact Nat.le_of_ble_eq_true rfl | (simp only [wrap_u8, IntKind.wrap_i64, IntKind.wrap_i32, wrap_u32', wrap_u64', InI]; (repeat' refine And.intro ?_ ?_) <;> omega) | ((repeat' refine And.intro ?_ ?_) <;> first | omega | rfl | exact Nat.le_refl _ | exact Nat.le_of_ble_eq_true rfl | exact bytesF_one _) | (simp_all; done) | (simp_all; omega))) ?_ | refine r_sto rfl (by (first | ((repeat' refine And.intro ?_ ?_) <;> first | omega | rfl | (simp only [D.cells, List.length_cons, List.length_nil, hwl]; omega)) | omega | exact Nat.le_of_ble_eq_true rfl | (simp only [wrap_u8, IntKind.wrap_i64, IntKind.wrap_i32, wrap_u32', wrap_u64', InI]; (repeat' refine And.intro ?_ ?_) <;> omega) | ((repeat' refine And.intro ?_ ?_) <;> first | omega | rfl | exact Nat.le_refl _ | exact Nat.le_of_ble_eq_true rfl | exact bytesF_one _) | (simp_all; done) | (simp_all; omega))) ?_ | refine r_gobj rfl rfl rfl rfl (by (first | ((repeat' refine And.intro ?_ ?_) <;> first | omega | rfl | (simp only [D.cells, List.length_cons, List.length_nil, hwl]; omega)) | omega | exact Nat.le_of_ble_eq_true rfl | (simp only [wrap_u8, IntKind.wrap_i64, IntKind.wrap_i32, wrap_u32', wrap_u64', InI]; (repeat' refine And.intro ?_ ?_) <;> omega) | ((repeat' refine And.intro ?_ ?_) <;> first | omega | rfl | exact Nat.le_refl _ | exact Nat.le_of_ble_eq_true rfl | exact bytesF_one _) | (simp_all; done) | (simp_all; omega))) ?_
          | refine e_hit rfl ?_ | refine e_miss rfl ?_
          | refine ⟨by kernel_rfl, ?_⟩ | refine x_end rfl ?_ | refine r_call (f := 61) rfl rfl Tryd.call61 rfl c1 ?_ | ((with_reducible refine c_grd ?_); (fail_if_success (refine c_lit true rfl rfl rfl ?_)); (fail_if_success (refine c_lit false rfl rfl rfl ?_)); refine c_split rfl rfl (fun _ => ?_) (fun _ => ?_)))
        all_goals
          refine ⟨i + 1, by omega, by omega, ⟨rfl, rfl, rfl, rfl, trivial⟩, ⟨rfl, ⟨_, _, rfl, rfl, fun j hj => ?_⟩, trivial⟩, rfl, by rw [hX]; intro k hk; cases hk⟩
          obtain rfl : j = 0 := by omega
          refine .inl ((if_pos rfl).trans ?_)
          have e9 : (0 + (i : Int).toNat * 1) = i := by omega
          rw [e9]
          exact hp
      · obtain rfl : i = 11 := by omega
        rw [wC_all]
        clear cN
        repeat' (first
          | with_reducible refine t_seq ?_ | with_reducible refine t_region ?_ | with_reducible refine c_nil ?_ | with_reducible refine n_then ?_
          | with_reducible refine t_ret ?_ | with_reducible refine t_skip ?_ | with_reducible refine t_exit ?_ | with_reducible refine t_block ?_
          | with_reducible refine n_block ?_ | with_reducible refine e_then ?_ | with_reducible refine x_then ?_ | with_reducible refine x_block ?_ | with_reducible refine t_draw ?_
          | refine r_val rfl rfl True.intro ?_ | refine r_gskip rfl rfl rfl ?_ | refine r_gskip2 rfl rfl rfl ?_ | refine r_gval rfl rfl rfl rfl True.intro ?_
          | refine t_true rfl ?_ | refine t_false rfl ?_
          | ((first | refine t_cond_d rfl (fun _ => ?_) (fun _ => ?_) | refine t_cond_i rfl (fun _ => ?_) (fun _ => ?_) | refine t_cond_j rfl (fun _ => ?_) (fun _ => ?_) | refine t_cond_s rfl (fun _ => ?_) (fun _ => ?_) | refine t_cond_n rfl (fun _ => ?_) (fun _ => ?_) | refine t_cond rfl (fun _ => ?_) (fun _ => ?_) | refine c_split_d rfl rfl (fun _ => ?_) (fun _ => ?_) | refine c_split_i rfl rfl (fun _ => ?_) (fun _ => ?_) | refine c_split_j rfl rfl (fun _ => ?_) (fun _ => ?_) | refine c_split_s rfl rfl (fun _ => ?_) (fun _ => ?_) | refine c_split_n rfl rfl (fun _ => ?_) (fun _ => ?_)) <;> try (first | (rename_i hz; exact Bool.noConfusion (show true = false from hz)) | (rename_i hz; exact Bool.noConfusion (show false = true from hz)) | (exfalso; omega)))
          | refine r_val rfl rfl (by (first | omega | exact Nat.le_of_ble_eq_true rfl | (simp only [wrap_u8, IntKind.wrap_i64, IntKind.wrap_i32, wrap_u32', wrap_u64', InI]; (repeat' refine And.intro ?_ ?_) <;> omega) | ((repeat' refine And.intro ?_ ?_) <;> first | omega | rfl | exact Nat.le_refl _ | exact Nat.le_of_ble_eq_true rfl | exact bytesF_one _) | (simp_all; done) | (simp_all; omega))) ?_ | refine r_gval rfl rfl rfl rfl (by (first | omega | exact Nat.le_of_ble_eq_true rfl | (simp only [wrap_u8, IntKind.wrap_i64, IntKind.wrap_i32, wrap_u32', wrap_u64', InI]; (repeat' refine And.intro ?_ ?_) <;> omega) | ((repeat' refine And.intro ?_ ?_) <;> first | omega | rfl | exact Nat.le_refl _ | exact Nat.le_of_ble_eq_true rfl | exact bytesF_one _) | (simp_all; done) | (simp_all; omega))) ?_
          | refine r_obj rfl rfl (by (first | omega | exact Nat.le_of_ble_eq_true rfl | (simp only [wrap_u8, IntKind.wrap_i64, IntKind.wrap_i32, wrap_u32', wrap_u64', InI]; (repeat' refine And.intro ?_ ?_) <;> omega) | ((repeat' refine And.intro ?_ ?_) <;> first | omega | rfl | exact Nat.le_refl _ | exact Nat.le_of_ble_eq_true rfl | exact bytesF_one _) | (simp_all; done) | (simp_all; omega))) ?_ | refine r_sto rfl (by (first | omega | exact Nat.le_of_ble_eq_true rfl | (simp only [wrap_u8, IntKind.wrap_i64, IntKind.wrap_i32, wrap_u32', wrap_u64', InI]; (repeat' refine And.intro ?_ ?_) <;> omega) | ((repeat' refine And.intro ?_ ?_) <;> first | omega | rfl | exact Nat.le_refl _ | exact Nat.le_of_ble_eq_true rfl | exact bytesF_one _) | (simp_all; done) | (simp_all; omega))) ?_ | refine r_gobj rfl rfl rfl rfl (by (first | omega | exact Nat.le_of_ble_eq_true rfl | (simp only [wrap_u8, IntKind.wrap_i64, IntKind.wrap_i32, wrap_u32', wrap_u64', InI]; (repeat' refine And.intro ?_ ?_) <;> omega) | ((repeat' refine And.intro ?_ ?_) <;> first | omega | rfl | exact Nat.le_refl _ | exact Nat.le_of_ble_eq_true rfl | exact bytesF_one _) | (simp_all; done) | (simp_all; omega))) ?_
          | refine e_hit rfl ?_ | refine e_miss rfl ?_
          | refine ⟨by kernel_rfl, ?_⟩ | refine x_end rfl ?_ | refine r_call (f := 62) rfl rfl Tryd.call62 rfl s1 ?_ | refine r_call (f := 62) rfl rfl Tryd.call62 rfl s2 ?_ | refine r_call (f := 62) rfl rfl Tryd.call62 rfl s3 ?_ | refine r_call (f := 62) rfl rfl Tryd.call62 rfl s4 ?_ | refine r_call (f := 62) rfl rfl Tryd.call62 rfl s5 ?_ | refine r_call (f := 62) rfl rfl Tryd.call62 rfl s6 ?_ | refine r_call (f := 63) rfl rfl Tryd.call63 rfl c2 ?_ | ((with_reducible refine c_grd ?_); (fail_if_success (refine c_lit true rfl rfl rfl ?_)); (fail_if_success (refine c_lit false rfl rfl rfl ?_)); refine c_split rfl rfl (fun _ => ?_) (fun _ => ?_)))
        all_goals first
          | exact hE _ ‹_› rfl
          | (obtain rfl := fe ‹_›
             rfl)
    · have f3 := f3 hm
      subst f3
      refine r_fun Tryd.func41 rfl Tryd.ntmps41 Tryd.results41 rfl rfl fun X hL hX => ?_
      repeat' (first
        | refine r_arrv (List.replicate 11 (.i .u64 0)) 11 rfl rfl rfl rfl rfl ?_
        | with_reducible refine t_seq ?_ | with_reducible refine t_region ?_ | with_reducible refine c_nil ?_ | with_reducible refine n_then ?_
        | with_reducible refine t_ret ?_ | with_reducible refine t_skip ?_ | with_reducible refine t_exit ?_ | with_reducible refine t_block ?_
        | with_reducible refine n_block ?_ | with_reducible refine e_then ?_ | with_reducible refine x_then ?_ | with_reducible refine x_block ?_ | with_reducible refine t_draw ?_
        | refine r_val rfl rfl True.intro ?_ | refine r_gskip rfl rfl rfl ?_ | refine r_gskip2 rfl rfl rfl ?_ | refine r_gval rfl rfl rfl rfl True.intro ?_
        | refine t_true rfl ?_ | refine t_false rfl ?_
        | ((first | refine t_cond_d rfl (fun _ => ?_) (fun _ => ?_) | refine t_cond_i rfl (fun _ => ?_) (fun _ => ?_) | refine t_cond_j rfl (fun _ => ?_) (fun _ => ?_) | refine t_cond_s rfl (fun _ => ?_) (fun _ => ?_) | refine t_cond_n rfl (fun _ => ?_) (fun _ => ?_) | refine t_cond rfl (fun _ => ?_) (fun _ => ?_) | refine c_split_d rfl rfl (fun _ => ?_) (fun _ => ?_) | refine c_split_i rfl rfl (fun _ => ?_) (fun _ => ?_) | refine c_split_j rfl rfl (fun _ => ?_) (fun _ => ?_) | refine c_split_s rfl rfl (fun _ => ?_) (fun _ => ?_) | refine c_split_n rfl rfl (fun _ => ?_) (fun _ => ?_)) <;> try (first | (rename_i hz; exact Bool.noConfusion (show true = false from hz)) | (rename_i hz; exact Bool.noConfusion (show false = true from hz)) | (exfalso; omega)))
        | refine r_val rfl rfl (by (first | (exact ⟨rfl, fun i hi => ⟨_, rfl⟩⟩) | omega | exact Nat.le_of_ble_eq_true rfl | (simp only [wrap_u8, IntKind.wrap_i64, IntKind.wrap_i32, wrap_u32', wrap_u64', InI]; (repeat' refine And.intro ?_ ?_) <;> omega) | ((repeat' refine And.intro ?_ ?_) <;> first | omega | rfl | exact Nat.le_refl _ | exact Nat.le_of_ble_eq_true rfl | exact bytesF_one _) | (simp_all; done) | (simp_all; omega))) ?_ | refine r_gval rfl rfl rfl rfl (by (first | (exact ⟨rfl, fun i hi => ⟨_, rfl⟩⟩) | omega | exact Nat.le_of_ble_eq_true rfl | (simp only [wrap_u8, IntKind.wrap_i64, IntKind.wrap_i32, wrap_u32', wrap_u64', InI]; (repeat' refine And.intro ?_ ?_) <;> omega) | ((repeat' refine And.intro ?_ ?_) <;> first | omega | rfl | exact Nat.le_refl _ | exact Nat.le_of_ble_eq_true rfl | exact bytesF_one _) | (simp_all; done) | (simp_all; omega))) ?_
        | refine r_obj rfl rfl (by (first | (exact ⟨rfl, fun i hi => ⟨_, rfl⟩⟩) | omega | exact Nat.le_of_ble_eq_true rfl | (simp only [wrap_u8, IntKind.wrap_i64, IntKind.wrap_i32, wrap_u32', wrap_u64', InI]; (repeat' refine And.intro ?_ ?_) <;> omega) | ((repeat' refine And.intro ?_ ?_) <;> first | omega | rfl | exact Nat.le_refl _ | exact Nat.le_of_ble_eq_true rfl | exact bytesF_one _) | (simp_all; done) | (simp_all; omega))) ?_ | refine r_sto rfl (by (first | (exact ⟨rfl, fun i hi => ⟨_, rfl⟩⟩) | omega | exact Nat.le_of_ble_eq_true rfl | (simp only [wrap_u8, IntKind.wrap_i64, IntKind.wrap_i32, wrap_u32', wrap_u64', InI]; (repeat' refine And.intro ?_ ?_) <;> omega) | ((repeat' refine And.intro ?_ ?_) <;> first | omega | rfl | exact Nat.le_refl _ | exact Nat.le_of_ble_eq_true rfl | exact bytesF_one _) | (simp_all; done) | (simp_all; omega))) ?_ | refine r_gobj rfl rfl rfl rfl (by (first | (exact ⟨rfl, fun i hi => ⟨_, rfl⟩⟩) | omega | exact Nat.le_of_ble_eq_true rfl | (simp only [wrap_u8, IntKind.wrap_i64, IntKind.wrap_i32, wrap_u32', wrap_u64', InI]; (repeat' refine And.intro ?_ ?_) <;> omega) | ((repeat' refine And.intro ?_ ?_) <;> first | omega | rfl | exact Nat.le_refl _ | exact Nat.le_of_ble_eq_true rfl | exact bytesF_one _) | (simp_all; done) | (simp_all; omega))) ?_
        | refine e_hit rfl ?_ | refine e_miss rfl ?_
        | refine ⟨by kernel_rfl, ?_⟩ | refine x_end rfl ?_ | ((with_reducible refine c_grd ?_); (fail_if_success (refine c_lit true rfl rfl rfl ?_)); (fail_if_success (refine c_lit false rfl rfl rfl ?_)); refine c_split rfl rfl (fun _ => ?_) (fun _ => ?_)))
      all_goals first
        | rfl
        | (exfalso
           refine hm ⟨hms.2 ⟨?_, ?_⟩, ?_⟩
           · exact hb7.symm.trans (eq_of_beq ‹_›)
           · assumption
           · exact Int.not_lt.1 ‹_›)

end Go.Proofs.YtinjdlckhmkmaaaDoor.Flow

/- REPORT: archives as texts, by both. -/
namespace Go.Proofs.YtinjdlckhmkmaaaDoor.Flow
open Go

def partT (a b : Nat) : List UInt8 := [Lib.decDigits a, [43], Lib.decDigits b].flatten
def pkT (k : Int) : List UInt8 := if k = 2 then [103, 122, 105, 112] else [112, 108, 97, 105, 110]
def arcH (h : Hd) : List UInt8 := [[122, 111, 111, 109, 115, 32], Lib.itoa h.minz, [45], Lib.itoa h.maxz, [32, 116, 105, 108, 101, 115, 32], Lib.decDigits h.c0, [32, 112, 97, 99, 107, 101, 100, 32], pkT h.out, [32, 109, 101, 116, 97, 32], Lib.decDigits h.m1, [10]].flatten
def arcX (h : Hd) : List UInt8 := [arcH h, [114, 111, 111, 116, 32], partT h.r0 h.r1, [32, 108, 101, 97, 118, 101, 115, 32], partT h.l0 h.l1, [32, 100, 97, 116, 97, 32], partT h.d0 h.d1, [10]].flatten
def arcE (e : Int) : List UInt8 := [[101, 114, 114, 111, 114, 32], Lib.itoa e, [10]].flatten
def arcT (b : List UInt8) : List UInt8 := if (headS b).2 = 0 then arcX (headS b).1 else arcE (headS b).2

theorem head_cases (b : List UInt8) : (∃ h, headS b = (h, 0) ∧ arcT b = arcX h ∧ HdIn h ∧ h.c0 < 18446744073709551616 ∧ okForm h) ∨ (∃ e, headS b = (hdZ, e) ∧ arcT b = arcE e ∧ (e = 5 ∨ e = 2 ∨ e = 3 ∨ e = 8)) := by
  have bad : ∀ e : Int, headS b = (hdZ, e) → (e = 5 ∨ e = 2 ∨ e = 3 ∨ e = 8) → ∃ e, headS b = (hdZ, e) ∧ arcT b = arcE e ∧ (e = 5 ∨ e = 2 ∨ e = 3 ∨ e = 8) := fun e h1 h2 => ⟨e, h1, by
    unfold arcT
    rw [h1]
    exact if_neg (by dsimp only; omega), h2⟩
  by_cases h5 : 4194304 < b.length
  · exact .inr (bad 5 (headS_5 h5) (.inl rfl))
  by_cases h2 : b.length < 127
  · exact .inr (bad 2 (headS_2 h2) (.inr (.inl rfl)))
  by_cases h3 : b.take 8 = mag8 ∧ byI b 96 ≤ 1
  · by_cases h4 : rgt (hdrOf b) b.length = 0
    · refine .inl ⟨hdrOf b, headS_0 h5 h2 h3 h4, ?_, hdr_in b, leN_lt8 _ _ _ (Nat.le_refl 8), ?_⟩
      · unfold arcT
        rw [headS_0 h5 h2 h3 h4]
        exact if_pos rfl
      · by_cases hk : okForm (hdrOf b)
        · exact hk
        · rw [rgt_3 hk] at h4
          cases h4
    · refine .inr (bad _ (headS_e h5 h2 h3 h4) ?_)
      unfold rgt at h4 ⊢
      split
      · exact .inr (.inr (.inl rfl))
      · split
        · exact .inr (.inr (.inr rfl))
        · rename_i q1 q2
          rw [if_neg q1, if_neg q2] at h4
          exact absurd rfl h4
  · exact .inr (bad 3 (headS_3 h5 h2 h3) (.inr (.inr (.inl rfl))))

theorem dec_len20 {n : Nat} (h : n < 18446744073709551616) : (Lib.decDigits n).length ≤ 20 := by
  have h2 : (10 : Nat) ^ 20 = 100000000000000000000 := by decide
  exact dec_len n 20 (by omega) (by omega)
theorem partT_len {a b : Nat} (ha : a < 18446744073709551616) (hb : b < 18446744073709551616) : (partT a b).length ≤ 41 := by
  have := dec_len20 ha
  have := dec_len20 hb
  unfold partT
  simp only [List.flatten_cons, List.flatten_nil, List.length_append, List.length_cons, List.length_nil]
  omega

theorem pkT_len (k : Int) : (pkT k).length ≤ 5 := by
  unfold pkT
  split <;> simp

theorem part_ctr (a b : Nat) (ha : a < 18446744073709551616) (hb : b < 18446744073709551616) : Ctr Tryd.prog 40 [.ag [.i .u64 (a : Nat), .i .u64 (b : Nat)]] (.s (partT a b)) := by
  have c1 := rbig_ctr a ha
  have c2 := rbig_ctr b hb
  have hl := partT_len ha hb
  have c3 := rtext_ctrR [Lib.decDigits a, [43], Lib.decDigits b] 3 (chF [Lib.decDigits a, [43], Lib.decDigits b]) rfl (chunk_tx _) (by simp) (by unfold partT at hl; omega)
  rw [show [Lib.decDigits a, [43], Lib.decDigits b].flatten = partT a b from rfl] at c3
  generalize partT a b = R at *
  generalize Lib.decDigits a = A1 at *
  generalize Lib.decDigits b = A2 at *
  refine r_fun Tryd.func40 rfl Tryd.ntmps40 Tryd.results40 rfl rfl fun X hL hX => ?_
  repeat' (first
    | with_reducible refine t_seq ?_ | with_reducible refine t_region ?_ | with_reducible refine c_nil ?_ | with_reducible refine n_then ?_
    | with_reducible refine t_ret ?_ | with_reducible refine t_skip ?_ | with_reducible refine t_exit ?_ | with_reducible refine t_block ?_
    | with_reducible refine n_block ?_ | with_reducible refine e_then ?_ | with_reducible refine x_then ?_ | with_reducible refine x_block ?_ | with_reducible refine t_draw ?_
    | refine r_val rfl rfl True.intro ?_ | refine r_gskip rfl rfl rfl ?_ | refine r_gskip2 rfl rfl rfl ?_ | refine r_gval rfl rfl rfl rfl True.intro ?_
    | refine t_true rfl ?_ | refine t_false rfl ?_
    | ((first | refine t_cond_d rfl (fun _ => ?_) (fun _ => ?_) | refine t_cond_i rfl (fun _ => ?_) (fun _ => ?_) | refine t_cond_j rfl (fun _ => ?_) (fun _ => ?_) | refine t_cond_s rfl (fun _ => ?_) (fun _ => ?_) | refine t_cond_n rfl (fun _ => ?_) (fun _ => ?_) | refine t_cond rfl (fun _ => ?_) (fun _ => ?_) | refine c_split_d rfl rfl (fun _ => ?_) (fun _ => ?_) | refine c_split_i rfl rfl (fun _ => ?_) (fun _ => ?_) | refine c_split_j rfl rfl (fun _ => ?_) (fun _ => ?_) | refine c_split_s rfl rfl (fun _ => ?_) (fun _ => ?_) | refine c_split_n rfl rfl (fun _ => ?_) (fun _ => ?_)) <;> try (first | (rename_i hz; exact Bool.noConfusion (show true = false from hz)) | (rename_i hz; exact Bool.noConfusion (show false = true from hz)) | (exfalso; omega)))
    | refine r_val rfl rfl (by (first | omega | exact Nat.le_of_ble_eq_true rfl | (simp only [wrap_u8, IntKind.wrap_i64, IntKind.wrap_i32, wrap_u32', wrap_u64', InI]; (repeat' refine And.intro ?_ ?_) <;> omega) | ((repeat' refine And.intro ?_ ?_) <;> first | omega | rfl | exact Nat.le_refl _ | exact Nat.le_of_ble_eq_true rfl | exact bytesF_one _) | (simp_all; done) | (simp_all; omega))) ?_ | refine r_gval rfl rfl rfl rfl (by (first | omega | exact Nat.le_of_ble_eq_true rfl | (simp only [wrap_u8, IntKind.wrap_i64, IntKind.wrap_i32, wrap_u32', wrap_u64', InI]; (repeat' refine And.intro ?_ ?_) <;> omega) | ((repeat' refine And.intro ?_ ?_) <;> first | omega | rfl | exact Nat.le_refl _ | exact Nat.le_of_ble_eq_true rfl | exact bytesF_one _) | (simp_all; done) | (simp_all; omega))) ?_
    | refine r_obj rfl rfl (by (first | omega | exact Nat.le_of_ble_eq_true rfl | (simp only [wrap_u8, IntKind.wrap_i64, IntKind.wrap_i32, wrap_u32', wrap_u64', InI]; (repeat' refine And.intro ?_ ?_) <;> omega) | ((repeat' refine And.intro ?_ ?_) <;> first | omega | rfl | exact Nat.le_refl _ | exact Nat.le_of_ble_eq_true rfl | exact bytesF_one _) | (simp_all; done) | (simp_all; omega))) ?_ | refine r_sto rfl (by (first | omega | exact Nat.le_of_ble_eq_true rfl | (simp only [wrap_u8, IntKind.wrap_i64, IntKind.wrap_i32, wrap_u32', wrap_u64', InI]; (repeat' refine And.intro ?_ ?_) <;> omega) | ((repeat' refine And.intro ?_ ?_) <;> first | omega | rfl | exact Nat.le_refl _ | exact Nat.le_of_ble_eq_true rfl | exact bytesF_one _) | (simp_all; done) | (simp_all; omega))) ?_ | refine r_gobj rfl rfl rfl rfl (by (first | omega | exact Nat.le_of_ble_eq_true rfl | (simp only [wrap_u8, IntKind.wrap_i64, IntKind.wrap_i32, wrap_u32', wrap_u64', InI]; (repeat' refine And.intro ?_ ?_) <;> omega) | ((repeat' refine And.intro ?_ ?_) <;> first | omega | rfl | exact Nat.le_refl _ | exact Nat.le_of_ble_eq_true rfl | exact bytesF_one _) | (simp_all; done) | (simp_all; omega))) ?_
    | refine e_hit rfl ?_ | refine e_miss rfl ?_
    | refine ⟨by kernel_rfl, ?_⟩ | refine x_end rfl ?_ | refine r_call (f := 32) rfl rfl Tryd.call32 rfl c1 ?_ | refine r_call (f := 32) rfl rfl Tryd.call32 rfl c2 ?_ | refine r_call (f := 24) rfl rfl Tryd.call24 rfl c3 ?_ | ((with_reducible refine c_grd ?_); (fail_if_success (refine c_lit true rfl rfl rfl ?_)); (fail_if_success (refine c_lit false rfl rfl rfl ?_)); refine c_split rfl rfl (fun _ => ?_) (fun _ => ?_)))
  all_goals rfl

theorem exact_ctr (n : Int) (h0 : -9223372036854775808 ≤ n) (h1 : n ≤ 9223372036854775807) : Ctr Tryd.prog 64 [.i .i64 n] (dcV (ofF n 0)) := by
  have c1 := rof_ctr n 0 h0 h1
  generalize ofF n 0 = R at *
  obtain ⟨r1, r2, r3⟩ := R
  refine r_fun Tryd.func64 rfl Tryd.ntmps64 Tryd.results64 rfl rfl fun X hL hX => ?_
  repeat' (first
    | with_reducible refine t_seq ?_ | with_reducible refine t_region ?_ | with_reducible refine c_nil ?_ | with_reducible refine n_then ?_
    | with_reducible refine t_ret ?_ | with_reducible refine t_skip ?_ | with_reducible refine t_exit ?_ | with_reducible refine t_block ?_
    | with_reducible refine n_block ?_ | with_reducible refine e_then ?_ | with_reducible refine x_then ?_ | with_reducible refine x_block ?_ | with_reducible refine t_draw ?_
    | refine r_val rfl rfl True.intro ?_ | refine r_gskip rfl rfl rfl ?_ | refine r_gskip2 rfl rfl rfl ?_ | refine r_gval rfl rfl rfl rfl True.intro ?_
    | refine t_true rfl ?_ | refine t_false rfl ?_
    | ((first | refine t_cond_d rfl (fun _ => ?_) (fun _ => ?_) | refine t_cond_i rfl (fun _ => ?_) (fun _ => ?_) | refine t_cond_j rfl (fun _ => ?_) (fun _ => ?_) | refine t_cond_s rfl (fun _ => ?_) (fun _ => ?_) | refine t_cond_n rfl (fun _ => ?_) (fun _ => ?_) | refine t_cond rfl (fun _ => ?_) (fun _ => ?_) | refine c_split_d rfl rfl (fun _ => ?_) (fun _ => ?_) | refine c_split_i rfl rfl (fun _ => ?_) (fun _ => ?_) | refine c_split_j rfl rfl (fun _ => ?_) (fun _ => ?_) | refine c_split_s rfl rfl (fun _ => ?_) (fun _ => ?_) | refine c_split_n rfl rfl (fun _ => ?_) (fun _ => ?_)) <;> try (first | (rename_i hz; exact Bool.noConfusion (show true = false from hz)) | (rename_i hz; exact Bool.noConfusion (show false = true from hz)) | (exfalso; omega)))
    | refine r_val rfl rfl (by (first | omega | exact Nat.le_of_ble_eq_true rfl | (simp only [wrap_u8, IntKind.wrap_i64, IntKind.wrap_i32, wrap_u32', wrap_u64', InI]; (repeat' refine And.intro ?_ ?_) <;> omega) | ((repeat' refine And.intro ?_ ?_) <;> first | omega | rfl | exact Nat.le_refl _ | exact Nat.le_of_ble_eq_true rfl | exact bytesF_one _) | (simp_all; done) | (simp_all; omega))) ?_ | refine r_gval rfl rfl rfl rfl (by (first | omega | exact Nat.le_of_ble_eq_true rfl | (simp only [wrap_u8, IntKind.wrap_i64, IntKind.wrap_i32, wrap_u32', wrap_u64', InI]; (repeat' refine And.intro ?_ ?_) <;> omega) | ((repeat' refine And.intro ?_ ?_) <;> first | omega | rfl | exact Nat.le_refl _ | exact Nat.le_of_ble_eq_true rfl | exact bytesF_one _) | (simp_all; done) | (simp_all; omega))) ?_
    | refine r_obj rfl rfl (by (first | omega | exact Nat.le_of_ble_eq_true rfl | (simp only [wrap_u8, IntKind.wrap_i64, IntKind.wrap_i32, wrap_u32', wrap_u64', InI]; (repeat' refine And.intro ?_ ?_) <;> omega) | ((repeat' refine And.intro ?_ ?_) <;> first | omega | rfl | exact Nat.le_refl _ | exact Nat.le_of_ble_eq_true rfl | exact bytesF_one _) | (simp_all; done) | (simp_all; omega))) ?_ | refine r_sto rfl (by (first | omega | exact Nat.le_of_ble_eq_true rfl | (simp only [wrap_u8, IntKind.wrap_i64, IntKind.wrap_i32, wrap_u32', wrap_u64', InI]; (repeat' refine And.intro ?_ ?_) <;> omega) | ((repeat' refine And.intro ?_ ?_) <;> first | omega | rfl | exact Nat.le_refl _ | exact Nat.le_of_ble_eq_true rfl | exact bytesF_one _) | (simp_all; done) | (simp_all; omega))) ?_ | refine r_gobj rfl rfl rfl rfl (by (first | omega | exact Nat.le_of_ble_eq_true rfl | (simp only [wrap_u8, IntKind.wrap_i64, IntKind.wrap_i32, wrap_u32', wrap_u64', InI]; (repeat' refine And.intro ?_ ?_) <;> omega) | ((repeat' refine And.intro ?_ ?_) <;> first | omega | rfl | exact Nat.le_refl _ | exact Nat.le_of_ble_eq_true rfl | exact bytesF_one _) | (simp_all; done) | (simp_all; omega))) ?_
    | refine e_hit rfl ?_ | refine e_miss rfl ?_
    | refine ⟨by kernel_rfl, ?_⟩ | refine x_end rfl ?_ | refine r_call (f := 58) rfl rfl Tryd.call58 rfl c1 ?_ | ((with_reducible refine c_grd ?_); (fail_if_success (refine c_lit true rfl rfl rfl ?_)); (fail_if_success (refine c_lit false rfl rfl rfl ?_)); refine c_split rfl rfl (fun _ => ?_) (fun _ => ?_)))
  all_goals rfl

theorem small_text : ∀ n : Fin 31, textF (ofF (n.1 : Int) 0).1 (ofF (n.1 : Int) 0).2.1 (ofF (n.1 : Int) 0).2.2 = Lib.itoa (n.1 : Int) := by decide +kernel

theorem rnum39_ctr (n : Int) (h0 : 0 ≤ n) (h1 : n ≤ 30) : Ctr Tryd.prog 42 [.i .i64 n] (.s (Lib.itoa n)) := by
  have c1 := exact_ctr n (by omega) (by omega)
  have e : textF (ofF n 0).1 (ofF n 0).2.1 (ofF n 0).2.2 = Lib.itoa n := by
    have := small_text ⟨n.toNat, by omega⟩
    rwa [show ((n.toNat : Nat) : Int) = n by omega] at this
  have hl := ofF_len n 0 (by omega) (by omega)
  have c2 := rtext_ctr (ofF n 0).1 (ofF n 0).2.1 (ofF n 0).2.2 (by omega)
  rw [e] at c2
  generalize ofF n 0 = R at *
  obtain ⟨r1, r2, r3⟩ := R
  generalize Lib.itoa n = T1 at *
  refine r_fun Tryd.func42 rfl Tryd.ntmps42 Tryd.results42 rfl rfl fun X hL hX => ?_
  repeat' (first
    | with_reducible refine t_seq ?_ | with_reducible refine t_region ?_ | with_reducible refine c_nil ?_ | with_reducible refine n_then ?_
    | with_reducible refine t_ret ?_ | with_reducible refine t_skip ?_ | with_reducible refine t_exit ?_ | with_reducible refine t_block ?_
    | with_reducible refine n_block ?_ | with_reducible refine e_then ?_ | with_reducible refine x_then ?_ | with_reducible refine x_block ?_ | with_reducible refine t_draw ?_
    | refine r_val rfl rfl True.intro ?_ | refine r_gskip rfl rfl rfl ?_ | refine r_gskip2 rfl rfl rfl ?_ | refine r_gval rfl rfl rfl rfl True.intro ?_
    | refine t_true rfl ?_ | refine t_false rfl ?_
    | ((first | refine t_cond_d rfl (fun _ => ?_) (fun _ => ?_) | refine t_cond_i rfl (fun _ => ?_) (fun _ => ?_) | refine t_cond_j rfl (fun _ => ?_) (fun _ => ?_) | refine t_cond_s rfl (fun _ => ?_) (fun _ => ?_) | refine t_cond_n rfl (fun _ => ?_) (fun _ => ?_) | refine t_cond rfl (fun _ => ?_) (fun _ => ?_) | refine c_split_d rfl rfl (fun _ => ?_) (fun _ => ?_) | refine c_split_i rfl rfl (fun _ => ?_) (fun _ => ?_) | refine c_split_j rfl rfl (fun _ => ?_) (fun _ => ?_) | refine c_split_s rfl rfl (fun _ => ?_) (fun _ => ?_) | refine c_split_n rfl rfl (fun _ => ?_) (fun _ => ?_)) <;> try (first | (rename_i hz; exact Bool.noConfusion (show true = false from hz)) | (rename_i hz; exact Bool.noConfusion (show false = true from hz)) | (exfalso; omega)))
    | refine r_val rfl rfl (by (first | omega | exact Nat.le_of_ble_eq_true rfl | (simp only [wrap_u8, IntKind.wrap_i64, IntKind.wrap_i32, wrap_u32', wrap_u64', InI]; (repeat' refine And.intro ?_ ?_) <;> omega) | ((repeat' refine And.intro ?_ ?_) <;> first | omega | rfl | exact Nat.le_refl _ | exact Nat.le_of_ble_eq_true rfl | exact bytesF_one _) | (simp_all; done) | (simp_all; omega))) ?_ | refine r_gval rfl rfl rfl rfl (by (first | omega | exact Nat.le_of_ble_eq_true rfl | (simp only [wrap_u8, IntKind.wrap_i64, IntKind.wrap_i32, wrap_u32', wrap_u64', InI]; (repeat' refine And.intro ?_ ?_) <;> omega) | ((repeat' refine And.intro ?_ ?_) <;> first | omega | rfl | exact Nat.le_refl _ | exact Nat.le_of_ble_eq_true rfl | exact bytesF_one _) | (simp_all; done) | (simp_all; omega))) ?_
    | refine r_obj rfl rfl (by (first | omega | exact Nat.le_of_ble_eq_true rfl | (simp only [wrap_u8, IntKind.wrap_i64, IntKind.wrap_i32, wrap_u32', wrap_u64', InI]; (repeat' refine And.intro ?_ ?_) <;> omega) | ((repeat' refine And.intro ?_ ?_) <;> first | omega | rfl | exact Nat.le_refl _ | exact Nat.le_of_ble_eq_true rfl | exact bytesF_one _) | (simp_all; done) | (simp_all; omega))) ?_ | refine r_sto rfl (by (first | omega | exact Nat.le_of_ble_eq_true rfl | (simp only [wrap_u8, IntKind.wrap_i64, IntKind.wrap_i32, wrap_u32', wrap_u64', InI]; (repeat' refine And.intro ?_ ?_) <;> omega) | ((repeat' refine And.intro ?_ ?_) <;> first | omega | rfl | exact Nat.le_refl _ | exact Nat.le_of_ble_eq_true rfl | exact bytesF_one _) | (simp_all; done) | (simp_all; omega))) ?_ | refine r_gobj rfl rfl rfl rfl (by (first | omega | exact Nat.le_of_ble_eq_true rfl | (simp only [wrap_u8, IntKind.wrap_i64, IntKind.wrap_i32, wrap_u32', wrap_u64', InI]; (repeat' refine And.intro ?_ ?_) <;> omega) | ((repeat' refine And.intro ?_ ?_) <;> first | omega | rfl | exact Nat.le_refl _ | exact Nat.le_of_ble_eq_true rfl | exact bytesF_one _) | (simp_all; done) | (simp_all; omega))) ?_
    | refine e_hit rfl ?_ | refine e_miss rfl ?_
    | refine ⟨by kernel_rfl, ?_⟩ | refine x_end rfl ?_ | refine r_call (f := 64) rfl rfl Tryd.call64 rfl c1 ?_ | refine r_call (f := 57) rfl rfl Tryd.call57 rfl c2 ?_ | ((with_reducible refine c_grd ?_); (fail_if_success (refine c_lit true rfl rfl rfl ?_)); (fail_if_success (refine c_lit false rfl rfl rfl ?_)); refine c_split rfl rfl (fun _ => ?_) (fun _ => ?_)))
  all_goals rfl

set_option maxRecDepth 100000 in
set_option maxHeartbeats 4000000 in
theorem archive_ctr (b : List UInt8) (hl : b.length ≤ 1048576) : Ctr Tryd.prog 16 [bD b] (.s (arcT b)) := by
  have c1 := head_ctrA b hl
  rcases head_cases b with ⟨h, e1, e2, ⟨i1, i2, i3, i4, i5, i6, i7, i8⟩, hc0, hok⟩ | ⟨e, e1, e2, he⟩
  · rw [e1] at c1
    dsimp only at c1
    rw [e2]
    clear e1 e2
    unfold okForm at hok
    have n1 := rnum_ctrR h.minz (by omega) (by omega)
    have n2 := rnum_ctrR h.maxz (by omega) (by omega)
    have n3 := rbig_ctr h.c0 hc0
    have n4 := rbig_ctr h.m1 i4
    have p1 := part_ctr h.r0 h.r1 i1 i2
    have p2 := part_ctr h.l0 h.l1 i5 i6
    have p3 := part_ctr h.d0 h.d1 i7 i8
    have l1 := itoa_lenI h.minz (by omega) (by omega)
    have l2 := itoa_lenI h.maxz (by omega) (by omega)
    have l3 := dec_len20 hc0
    have l4 := dec_len20 i4
    have l5 := pkT_len h.out
    have l6 := partT_len i1 i2
    have l7 := partT_len i5 i6
    have l8 := partT_len i7 i8
    have t1 := rtext_ctrR [[122, 111, 111, 109, 115, 32], Lib.itoa h.minz, [45], Lib.itoa h.maxz, [32, 116, 105, 108, 101, 115, 32], Lib.decDigits h.c0, [32, 112, 97, 99, 107, 101, 100, 32], pkT h.out, [32, 109, 101, 116, 97, 32], Lib.decDigits h.m1, [10]] 11 (chF [[122, 111, 111, 109, 115, 32], Lib.itoa h.minz, [45], Lib.itoa h.maxz, [32, 116, 105, 108, 101, 115, 32], Lib.decDigits h.c0, [32, 112, 97, 99, 107, 101, 100, 32], pkT h.out, [32, 109, 101, 116, 97, 32], Lib.decDigits h.m1, [10]]) rfl (chunk_tx _) (by simp) (by simp only [List.flatten_cons, List.flatten_nil, List.length_append, List.length_cons, List.length_nil]; omega)
    rw [show [[122, 111, 111, 109, 115, 32], Lib.itoa h.minz, [45], Lib.itoa h.maxz, [32, 116, 105, 108, 101, 115, 32], Lib.decDigits h.c0, [32, 112, 97, 99, 107, 101, 100, 32], pkT h.out, [32, 109, 101, 116, 97, 32], Lib.decDigits h.m1, [10]].flatten = arcH h from rfl] at t1
    have la : (arcH h).length ≤ 200 := by
      unfold arcH
      simp only [List.flatten_cons, List.flatten_nil, List.length_append, List.length_cons, List.length_nil]
      omega
    have t2 := rtext_ctrR [arcH h, [114, 111, 111, 116, 32], partT h.r0 h.r1, [32, 108, 101, 97, 118, 101, 115, 32], partT h.l0 h.l1, [32, 100, 97, 116, 97, 32], partT h.d0 h.d1, [10]] 8 (chF [arcH h, [114, 111, 111, 116, 32], partT h.r0 h.r1, [32, 108, 101, 97, 118, 101, 115, 32], partT h.l0 h.l1, [32, 100, 97, 116, 97, 32], partT h.d0 h.d1, [10]]) rfl (chunk_tx _) (by simp) (by simp only [List.flatten_cons, List.flatten_nil, List.length_append, List.length_cons, List.length_nil]; omega)
    rw [show [arcH h, [114, 111, 111, 116, 32], partT h.r0 h.r1, [32, 108, 101, 97, 118, 101, 115, 32], partT h.l0 h.l1, [32, 100, 97, 116, 97, 32], partT h.d0 h.d1, [10]].flatten = arcX h from rfl] at t2
    have k2 : h.out = 2 → pkT h.out = [103, 122, 105, 112] := fun h => if_pos h
    have k1 : ¬ h.out = 2 → pkT h.out = [112, 108, 97, 105, 110] := fun h => if_neg h
    clear hok l1 l2 l3 l4 l5 l6 l7 l8 la
    generalize arcX h = R at *
    generalize arcH h = R1 at *
    generalize partT h.r0 h.r1 = q1 at *
    generalize partT h.l0 h.l1 = q2 at *
    generalize partT h.d0 h.d1 = q3 at *
    by_cases ho : h.out = 2
    · rw [k2 ho] at t1
      clear k1 k2
      generalize Lib.itoa h.minz = A1 at *
      generalize Lib.itoa h.maxz = A2 at *
      generalize Lib.decDigits h.c0 = A3 at *
      generalize Lib.decDigits h.m1 = A4 at *
      refine r_fun Tryd.func16 rfl Tryd.ntmps16 Tryd.results16 rfl rfl fun X hL hX => ?_
      repeat' (first
        | with_reducible refine t_seq ?_ | with_reducible refine t_region ?_ | with_reducible refine c_nil ?_ | with_reducible refine n_then ?_
        | with_reducible refine t_ret ?_ | with_reducible refine t_skip ?_ | with_reducible refine t_exit ?_ | with_reducible refine t_block ?_
        | with_reducible refine n_block ?_ | with_reducible refine e_then ?_ | with_reducible refine x_then ?_ | with_reducible refine x_block ?_ | with_reducible refine t_draw ?_
        | refine r_val rfl rfl True.intro ?_ | refine r_gskip rfl rfl rfl ?_ | refine r_gskip2 rfl rfl rfl ?_ | refine r_gval rfl rfl rfl rfl True.intro ?_
        | refine t_true rfl ?_ | refine t_false rfl ?_
        | ((first | refine t_cond_d rfl (fun _ => ?_) (fun _ => ?_) | refine t_cond_i rfl (fun _ => ?_) (fun _ => ?_) | refine t_cond_j rfl (fun _ => ?_) (fun _ => ?_) | refine t_cond_s rfl (fun _ => ?_) (fun _ => ?_) | refine t_cond_n rfl (fun _ => ?_) (fun _ => ?_) | refine t_cond rfl (fun _ => ?_) (fun _ => ?_) | refine c_split_d rfl rfl (fun _ => ?_) (fun _ => ?_) | refine c_split_i rfl rfl (fun _ => ?_) (fun _ => ?_) | refine c_split_j rfl rfl (fun _ => ?_) (fun _ => ?_) | refine c_split_s rfl rfl (fun _ => ?_) (fun _ => ?_) | refine c_split_n rfl rfl (fun _ => ?_) (fun _ => ?_)) <;> try (first | (rename_i hz; exact Bool.noConfusion (show true = false from hz)) | (rename_i hz; exact Bool.noConfusion (show false = true from hz)) | (exfalso; omega)))
        | refine r_val rfl rfl (by (first | omega | exact Nat.le_of_ble_eq_true rfl | (simp only [wrap_u8, IntKind.wrap_i64, IntKind.wrap_i32, wrap_u32', wrap_u64', InI]; (repeat' refine And.intro ?_ ?_) <;> omega) | ((repeat' refine And.intro ?_ ?_) <;> first | omega | rfl | exact Nat.le_refl _ | exact Nat.le_of_ble_eq_true rfl | exact bytesF_one _) | (simp_all; done) | (simp_all; omega))) ?_ | refine r_gval rfl rfl rfl rfl (by (first | omega | exact Nat.le_of_ble_eq_true rfl | (simp only [wrap_u8, IntKind.wrap_i64, IntKind.wrap_i32, wrap_u32', wrap_u64', InI]; (repeat' refine And.intro ?_ ?_) <;> omega) | ((repeat' refine And.intro ?_ ?_) <;> first | omega | rfl | exact Nat.le_refl _ | exact Nat.le_of_ble_eq_true rfl | exact bytesF_one _) | (simp_all; done) | (simp_all; omega))) ?_
        | refine r_obj rfl rfl (by (first | omega | exact Nat.le_of_ble_eq_true rfl | (simp only [wrap_u8, IntKind.wrap_i64, IntKind.wrap_i32, wrap_u32', wrap_u64', InI]; (repeat' refine And.intro ?_ ?_) <;> omega) | ((repeat' refine And.intro ?_ ?_) <;> first | omega | rfl | exact Nat.le_refl _ | exact Nat.le_of_ble_eq_true rfl | exact bytesF_one _) | (simp_all; done) | (simp_all; omega))) ?_ | refine r_sto rfl (by (first | omega | exact Nat.le_of_ble_eq_true rfl | (simp only [wrap_u8, IntKind.wrap_i64, IntKind.wrap_i32, wrap_u32', wrap_u64', InI]; (repeat' refine And.intro ?_ ?_) <;> omega) | ((repeat' refine And.intro ?_ ?_) <;> first | omega | rfl | exact Nat.le_refl _ | exact Nat.le_of_ble_eq_true rfl | exact bytesF_one _) | (simp_all; done) | (simp_all; omega))) ?_ | refine r_gobj rfl rfl rfl rfl (by (first | omega | exact Nat.le_of_ble_eq_true rfl | (simp only [wrap_u8, IntKind.wrap_i64, IntKind.wrap_i32, wrap_u32', wrap_u64', InI]; (repeat' refine And.intro ?_ ?_) <;> omega) | ((repeat' refine And.intro ?_ ?_) <;> first | omega | rfl | exact Nat.le_refl _ | exact Nat.le_of_ble_eq_true rfl | exact bytesF_one _) | (simp_all; done) | (simp_all; omega))) ?_
        | refine e_hit rfl ?_ | refine e_miss rfl ?_
        | refine ⟨by kernel_rfl, ?_⟩ | refine x_end rfl ?_ | refine r_call (f := 39) rfl rfl Tryd.call39 rfl c1 ?_ | refine r_call (f := 25) rfl rfl Tryd.call25 rfl n1 ?_ | refine r_call (f := 25) rfl rfl Tryd.call25 rfl n2 ?_ | refine r_call (f := 32) rfl rfl Tryd.call32 rfl n3 ?_ | refine r_call (f := 32) rfl rfl Tryd.call32 rfl n4 ?_ | refine r_call (f := 40) rfl rfl Tryd.call40 rfl p1 ?_ | refine r_call (f := 40) rfl rfl Tryd.call40 rfl p2 ?_ | refine r_call (f := 40) rfl rfl Tryd.call40 rfl p3 ?_ | refine r_call (f := 24) rfl rfl Tryd.call24 rfl t1 ?_ | refine r_call (f := 24) rfl rfl Tryd.call24 rfl t2 ?_ | ((with_reducible refine c_grd ?_); (fail_if_success (refine c_lit true rfl rfl rfl ?_)); (fail_if_success (refine c_lit false rfl rfl rfl ?_)); refine c_split rfl rfl (fun _ => ?_) (fun _ => ?_)))
      all_goals rfl
    · rw [k1 ho] at t1
      clear k1 k2
      generalize Lib.itoa h.minz = A1 at *
      generalize Lib.itoa h.maxz = A2 at *
      generalize Lib.decDigits h.c0 = A3 at *
      generalize Lib.decDigits h.m1 = A4 at *
      refine r_fun Tryd.func16 rfl Tryd.ntmps16 Tryd.results16 rfl rfl fun X hL hX => ?_
      repeat' (first
        | with_reducible refine t_seq ?_ | with_reducible refine t_region ?_ | with_reducible refine c_nil ?_ | with_reducible refine n_then ?_
        | with_reducible refine t_ret ?_ | with_reducible refine t_skip ?_ | with_reducible refine t_exit ?_ | with_reducible refine t_block ?_
        | with_reducible refine n_block ?_ | with_reducible refine e_then ?_ | with_reducible refine x_then ?_ | with_reducible refine x_block ?_ | with_reducible refine t_draw ?_
        | refine r_val rfl rfl True.intro ?_ | refine r_gskip rfl rfl rfl ?_ | refine r_gskip2 rfl rfl rfl ?_ | refine r_gval rfl rfl rfl rfl True.intro ?_
        | refine t_true rfl ?_ | refine t_false rfl ?_
        | ((first | refine t_cond_d rfl (fun _ => ?_) (fun _ => ?_) | refine t_cond_i rfl (fun _ => ?_) (fun _ => ?_) | refine t_cond_j rfl (fun _ => ?_) (fun _ => ?_) | refine t_cond_s rfl (fun _ => ?_) (fun _ => ?_) | refine t_cond_n rfl (fun _ => ?_) (fun _ => ?_) | refine t_cond rfl (fun _ => ?_) (fun _ => ?_) | refine c_split_d rfl rfl (fun _ => ?_) (fun _ => ?_) | refine c_split_i rfl rfl (fun _ => ?_) (fun _ => ?_) | refine c_split_j rfl rfl (fun _ => ?_) (fun _ => ?_) | refine c_split_s rfl rfl (fun _ => ?_) (fun _ => ?_) | refine c_split_n rfl rfl (fun _ => ?_) (fun _ => ?_)) <;> try (first | (rename_i hz; exact Bool.noConfusion (show true = false from hz)) | (rename_i hz; exact Bool.noConfusion (show false = true from hz)) | (exfalso; omega)))
        | refine r_val rfl rfl (by (first | omega | exact Nat.le_of_ble_eq_true rfl | (simp only [wrap_u8, IntKind.wrap_i64, IntKind.wrap_i32, wrap_u32', wrap_u64', InI]; (repeat' refine And.intro ?_ ?_) <;> omega) | ((repeat' refine And.intro ?_ ?_) <;> first | omega | rfl | exact Nat.le_refl _ | exact Nat.le_of_ble_eq_true rfl | exact bytesF_one _) | (simp_all; done) | (simp_all; omega))) ?_ | refine r_gval rfl rfl rfl rfl (by (first | omega | exact Nat.le_of_ble_eq_true rfl | (simp only [wrap_u8, IntKind.wrap_i64, IntKind.wrap_i32, wrap_u32', wrap_u64', InI]; (repeat' refine And.intro ?_ ?_) <;> omega) | ((repeat' refine And.intro ?_ ?_) <;> first | omega | rfl | exact Nat.le_refl _ | exact Nat.le_of_ble_eq_true rfl | exact bytesF_one _) | (simp_all; done) | (simp_all; omega))) ?_
        | refine r_obj rfl rfl (by (first | omega | exact Nat.le_of_ble_eq_true rfl | (simp only [wrap_u8, IntKind.wrap_i64, IntKind.wrap_i32, wrap_u32', wrap_u64', InI]; (repeat' refine And.intro ?_ ?_) <;> omega) | ((repeat' refine And.intro ?_ ?_) <;> first | omega | rfl | exact Nat.le_refl _ | exact Nat.le_of_ble_eq_true rfl | exact bytesF_one _) | (simp_all; done) | (simp_all; omega))) ?_ | refine r_sto rfl (by (first | omega | exact Nat.le_of_ble_eq_true rfl | (simp only [wrap_u8, IntKind.wrap_i64, IntKind.wrap_i32, wrap_u32', wrap_u64', InI]; (repeat' refine And.intro ?_ ?_) <;> omega) | ((repeat' refine And.intro ?_ ?_) <;> first | omega | rfl | exact Nat.le_refl _ | exact Nat.le_of_ble_eq_true rfl | exact bytesF_one _) | (simp_all; done) | (simp_all; omega))) ?_ | refine r_gobj rfl rfl rfl rfl (by (first | omega | exact Nat.le_of_ble_eq_true rfl | (simp only [wrap_u8, IntKind.wrap_i64, IntKind.wrap_i32, wrap_u32', wrap_u64', InI]; (repeat' refine And.intro ?_ ?_) <;> omega) | ((repeat' refine And.intro ?_ ?_) <;> first | omega | rfl | exact Nat.le_refl _ | exact Nat.le_of_ble_eq_true rfl | exact bytesF_one _) | (simp_all; done) | (simp_all; omega))) ?_
        | refine e_hit rfl ?_ | refine e_miss rfl ?_
        | refine ⟨by kernel_rfl, ?_⟩ | refine x_end rfl ?_ | refine r_call (f := 39) rfl rfl Tryd.call39 rfl c1 ?_ | refine r_call (f := 25) rfl rfl Tryd.call25 rfl n1 ?_ | refine r_call (f := 25) rfl rfl Tryd.call25 rfl n2 ?_ | refine r_call (f := 32) rfl rfl Tryd.call32 rfl n3 ?_ | refine r_call (f := 32) rfl rfl Tryd.call32 rfl n4 ?_ | refine r_call (f := 40) rfl rfl Tryd.call40 rfl p1 ?_ | refine r_call (f := 40) rfl rfl Tryd.call40 rfl p2 ?_ | refine r_call (f := 40) rfl rfl Tryd.call40 rfl p3 ?_ | refine r_call (f := 24) rfl rfl Tryd.call24 rfl t1 ?_ | refine r_call (f := 24) rfl rfl Tryd.call24 rfl t2 ?_ | ((with_reducible refine c_grd ?_); (fail_if_success (refine c_lit true rfl rfl rfl ?_)); (fail_if_success (refine c_lit false rfl rfl rfl ?_)); refine c_split rfl rfl (fun _ => ?_) (fun _ => ?_)))
      all_goals rfl
  · rw [e1] at c1
    dsimp only at c1
    rw [e2]
    clear e1 e2
    have n1 := rnum_ctrR e (by omega) (by omega)
    have l1 := itoa_lenI e (by omega) (by omega)
    have t1 := rtext_ctrR [[101, 114, 114, 111, 114, 32], Lib.itoa e, [10]] 3 (chF [[101, 114, 114, 111, 114, 32], Lib.itoa e, [10]]) rfl (chunk_tx _) (by simp) (by simp only [List.flatten_cons, List.flatten_nil, List.length_append, List.length_cons, List.length_nil]; omega)
    rw [show [[101, 114, 114, 111, 114, 32], Lib.itoa e, [10]].flatten = arcE e from rfl] at t1
    generalize arcE e = R at *
    generalize Lib.itoa e = A1 at *
    refine r_fun Tryd.func16 rfl Tryd.ntmps16 Tryd.results16 rfl rfl fun X hL hX => ?_
    repeat' (first
      | with_reducible refine t_seq ?_ | with_reducible refine t_region ?_ | with_reducible refine c_nil ?_ | with_reducible refine n_then ?_
      | with_reducible refine t_ret ?_ | with_reducible refine t_skip ?_ | with_reducible refine t_exit ?_ | with_reducible refine t_block ?_
      | with_reducible refine n_block ?_ | with_reducible refine e_then ?_ | with_reducible refine x_then ?_ | with_reducible refine x_block ?_ | with_reducible refine t_draw ?_
      | refine r_val rfl rfl True.intro ?_ | refine r_gskip rfl rfl rfl ?_ | refine r_gskip2 rfl rfl rfl ?_ | refine r_gval rfl rfl rfl rfl True.intro ?_
      | refine t_true rfl ?_ | refine t_false rfl ?_
      | ((first | refine t_cond_d rfl (fun _ => ?_) (fun _ => ?_) | refine t_cond_i rfl (fun _ => ?_) (fun _ => ?_) | refine t_cond_j rfl (fun _ => ?_) (fun _ => ?_) | refine t_cond_s rfl (fun _ => ?_) (fun _ => ?_) | refine t_cond_n rfl (fun _ => ?_) (fun _ => ?_) | refine t_cond rfl (fun _ => ?_) (fun _ => ?_) | refine c_split_d rfl rfl (fun _ => ?_) (fun _ => ?_) | refine c_split_i rfl rfl (fun _ => ?_) (fun _ => ?_) | refine c_split_j rfl rfl (fun _ => ?_) (fun _ => ?_) | refine c_split_s rfl rfl (fun _ => ?_) (fun _ => ?_) | refine c_split_n rfl rfl (fun _ => ?_) (fun _ => ?_)) <;> try (first | (rename_i hz; exact Bool.noConfusion (show true = false from hz)) | (rename_i hz; exact Bool.noConfusion (show false = true from hz)) | (exfalso; omega)))
      | refine r_val rfl rfl (by (first | omega | exact Nat.le_of_ble_eq_true rfl | (simp only [wrap_u8, IntKind.wrap_i64, IntKind.wrap_i32, wrap_u32', wrap_u64', InI]; (repeat' refine And.intro ?_ ?_) <;> omega) | ((repeat' refine And.intro ?_ ?_) <;> first | omega | rfl | exact Nat.le_refl _ | exact Nat.le_of_ble_eq_true rfl | exact bytesF_one _) | (simp_all; done) | (simp_all; omega))) ?_ | refine r_gval rfl rfl rfl rfl (by (first | omega | exact Nat.le_of_ble_eq_true rfl | (simp only [wrap_u8, IntKind.wrap_i64, IntKind.wrap_i32, wrap_u32', wrap_u64', InI]; (repeat' refine And.intro ?_ ?_) <;> omega) | ((repeat' refine And.intro ?_ ?_) <;> first | omega | rfl | exact Nat.le_refl _ | exact Nat.le_of_ble_eq_true rfl | exact bytesF_one _) | (simp_all; done) | (simp_all; omega))) ?_
      | refine r_obj rfl rfl (by (first | omega | exact Nat.le_of_ble_eq_true rfl | (simp only [wrap_u8, IntKind.wrap_i64, IntKind.wrap_i32, wrap_u32', wrap_u64', InI]; (repeat' refine And.intro ?_ ?_) <;> omega) | ((repeat' refine And.intro ?_ ?_) <;> first | omega | rfl | exact Nat.le_refl _ | exact Nat.le_of_ble_eq_true rfl | exact bytesF_one _) | (simp_all; done) | (simp_all; omega))) ?_ | refine r_sto rfl (by (first | omega | exact Nat.le_of_ble_eq_true rfl | (simp only [wrap_u8, IntKind.wrap_i64, IntKind.wrap_i32, wrap_u32', wrap_u64', InI]; (repeat' refine And.intro ?_ ?_) <;> omega) | ((repeat' refine And.intro ?_ ?_) <;> first | omega | rfl | exact Nat.le_refl _ | exact Nat.le_of_ble_eq_true rfl | exact bytesF_one _) | (simp_all; done) | (simp_all; omega))) ?_ | refine r_gobj rfl rfl rfl rfl (by (first | omega | exact Nat.le_of_ble_eq_true rfl | (simp only [wrap_u8, IntKind.wrap_i64, IntKind.wrap_i32, wrap_u32', wrap_u64', InI]; (repeat' refine And.intro ?_ ?_) <;> omega) | ((repeat' refine And.intro ?_ ?_) <;> first | omega | rfl | exact Nat.le_refl _ | exact Nat.le_of_ble_eq_true rfl | exact bytesF_one _) | (simp_all; done) | (simp_all; omega))) ?_
      | refine e_hit rfl ?_ | refine e_miss rfl ?_
      | refine ⟨by kernel_rfl, ?_⟩ | refine x_end rfl ?_ | refine r_call (f := 39) rfl rfl Tryd.call39 rfl c1 ?_ | refine r_call (f := 25) rfl rfl Tryd.call25 rfl n1 ?_ | refine r_call (f := 24) rfl rfl Tryd.call24 rfl t1 ?_ | ((with_reducible refine c_grd ?_); (fail_if_success (refine c_lit true rfl rfl rfl ?_)); (fail_if_success (refine c_lit false rfl rfl rfl ?_)); refine c_split rfl rfl (fun _ => ?_) (fun _ => ?_)))
    all_goals rfl

set_option maxRecDepth 100000 in
set_option maxHeartbeats 4000000 in
theorem rarchive_ctr (b : List UInt8) (hl : b.length ≤ 1048576) : Ctr Tryd.prog 17 [bD b] (.s (arcT b)) := by
  have c1 := rhead_ctrA b hl
  rcases head_cases b with ⟨h, e1, e2, ⟨i1, i2, i3, i4, i5, i6, i7, i8⟩, hc0, hok⟩ | ⟨e, e1, e2, he⟩
  · rw [e1] at c1
    dsimp only at c1
    rw [e2]
    clear e1 e2
    unfold okForm at hok
    have n1 := rnum39_ctr h.minz (by omega) (by omega)
    have n2 := rnum39_ctr h.maxz (by omega) (by omega)
    have n3 := rbig_ctrR h.c0 hc0
    have n4 := rbig_ctrR h.m1 i4
    have p1 := rbig_ctrR h.r0 i1
    have p2 := rbig_ctrR h.r1 i2
    have p3 := rbig_ctrR h.l0 i5
    have p4 := rbig_ctrR h.l1 i6
    have p5 := rbig_ctrR h.d0 i7
    have p6 := rbig_ctrR h.d1 i8
    have l1 := itoa_lenI h.minz (by omega) (by omega)
    have l2 := itoa_lenI h.maxz (by omega) (by omega)
    have l3 := dec_len20 hc0
    have l4 := dec_len20 i4
    have a1 := dec_len20 i1
    have a2 := dec_len20 i2
    have a3 := dec_len20 i5
    have a4 := dec_len20 i6
    have a5 := dec_len20 i7
    have a6 := dec_len20 i8
    have k2 : h.out = 2 → pkT h.out = [103, 122, 105, 112] := fun h => if_pos h
    have k1 : ¬ h.out = 2 → pkT h.out = [112, 108, 97, 105, 110] := fun h => if_neg h
    have k3 : h.out = 1 ∨ h.out = 2 := hok.2.1
    have eX : arcX h = (((((((((((((((((((((([122, 111, 111, 109, 115, 32] ++ Lib.itoa h.minz) ++ [45]) ++ Lib.itoa h.maxz) ++ [32, 116, 105, 108, 101, 115, 32]) ++ Lib.decDigits h.c0) ++ [32, 112, 97, 99, 107, 101, 100, 32]) ++ pkT h.out) ++ [32, 109, 101, 116, 97, 32]) ++ Lib.decDigits h.m1) ++ [10, 114, 111, 111, 116, 32]) ++ Lib.decDigits h.r0) ++ [43]) ++ Lib.decDigits h.r1) ++ [32, 108, 101, 97, 118, 101, 115, 32]) ++ Lib.decDigits h.l0) ++ [43]) ++ Lib.decDigits h.l1) ++ [32, 100, 97, 116, 97, 32]) ++ Lib.decDigits h.d0) ++ [43]) ++ Lib.decDigits h.d1) ++ [10]) := by
      unfold arcX arcH partT
      simp only [List.flatten_cons, List.flatten_nil, List.append_nil, List.append_assoc, List.cons_append, List.nil_append]
    rw [eX]
    clear hok eX
    generalize Lib.itoa h.minz = A1 at *
    generalize Lib.itoa h.maxz = A2 at *
    generalize Lib.decDigits h.c0 = A3 at *
    generalize Lib.decDigits h.m1 = A4 at *
    generalize Lib.decDigits h.r0 = B1 at *
    generalize Lib.decDigits h.r1 = B2 at *
    generalize Lib.decDigits h.l0 = B3 at *
    generalize Lib.decDigits h.l1 = B4 at *
    generalize Lib.decDigits h.d0 = B5 at *
    generalize Lib.decDigits h.d1 = B6 at *
    refine r_fun Tryd.func17 rfl Tryd.ntmps17 Tryd.results17 rfl rfl fun X hL hX => ?_
    repeat' (first
      | with_reducible refine t_seq ?_ | with_reducible refine t_region ?_ | with_reducible refine c_nil ?_ | with_reducible refine n_then ?_
      | with_reducible refine t_ret ?_ | with_reducible refine t_skip ?_ | with_reducible refine t_exit ?_ | with_reducible refine t_block ?_
      | with_reducible refine n_block ?_ | with_reducible refine e_then ?_ | with_reducible refine x_then ?_ | with_reducible refine x_block ?_ | with_reducible refine t_draw ?_
      | refine r_val rfl rfl True.intro ?_ | refine r_gskip rfl rfl rfl ?_ | refine r_gskip2 rfl rfl rfl ?_ | refine r_gval rfl rfl rfl rfl True.intro ?_
      | refine t_true rfl ?_ | refine t_false rfl ?_
      | ((first | refine t_cond_d rfl (fun _ => ?_) (fun _ => ?_) | refine t_cond_i rfl (fun _ => ?_) (fun _ => ?_) | refine t_cond_j rfl (fun _ => ?_) (fun _ => ?_) | refine t_cond_s rfl (fun _ => ?_) (fun _ => ?_) | refine t_cond_n rfl (fun _ => ?_) (fun _ => ?_) | refine t_cond rfl (fun _ => ?_) (fun _ => ?_) | refine c_split_d rfl rfl (fun _ => ?_) (fun _ => ?_) | refine c_split_i rfl rfl (fun _ => ?_) (fun _ => ?_) | refine c_split_j rfl rfl (fun _ => ?_) (fun _ => ?_) | refine c_split_s rfl rfl (fun _ => ?_) (fun _ => ?_) | refine c_split_n rfl rfl (fun _ => ?_) (fun _ => ?_)) <;> try (first | (rename_i hz; exact Bool.noConfusion (show true = false from hz)) | (rename_i hz; exact Bool.noConfusion (show false = true from hz)) | (exfalso; omega)))
      | refine r_val rfl rfl (by (first | (simp only [List.length_append, List.length_cons, List.length_nil]; omega) | omega | exact Nat.le_of_ble_eq_true rfl | (simp only [wrap_u8, IntKind.wrap_i64, IntKind.wrap_i32, wrap_u32', wrap_u64', InI]; (repeat' refine And.intro ?_ ?_) <;> omega) | ((repeat' refine And.intro ?_ ?_) <;> first | omega | rfl | exact Nat.le_refl _ | exact Nat.le_of_ble_eq_true rfl | exact bytesF_one _) | (simp_all; done) | (simp_all; omega))) ?_ | refine r_gval rfl rfl rfl rfl (by (first | (simp only [List.length_append, List.length_cons, List.length_nil]; omega) | omega | exact Nat.le_of_ble_eq_true rfl | (simp only [wrap_u8, IntKind.wrap_i64, IntKind.wrap_i32, wrap_u32', wrap_u64', InI]; (repeat' refine And.intro ?_ ?_) <;> omega) | ((repeat' refine And.intro ?_ ?_) <;> first | omega | rfl | exact Nat.le_refl _ | exact Nat.le_of_ble_eq_true rfl | exact bytesF_one _) | (simp_all; done) | (simp_all; omega))) ?_
      | refine r_obj rfl rfl (by (first | (simp only [List.length_append, List.length_cons, List.length_nil]; omega) | omega | exact Nat.le_of_ble_eq_true rfl | (simp only [wrap_u8, IntKind.wrap_i64, IntKind.wrap_i32, wrap_u32', wrap_u64', InI]; (repeat' refine And.intro ?_ ?_) <;> omega) | ((repeat' refine And.intro ?_ ?_) <;> first | omega | rfl | exact Nat.le_refl _ | exact Nat.le_of_ble_eq_true rfl | exact bytesF_one _) | (simp_all; done) | (simp_all; omega))) ?_ | refine r_sto rfl (by (first | (simp only [List.length_append, List.length_cons, List.length_nil]; omega) | omega | exact Nat.le_of_ble_eq_true rfl | (simp only [wrap_u8, IntKind.wrap_i64, IntKind.wrap_i32, wrap_u32', wrap_u64', InI]; (repeat' refine And.intro ?_ ?_) <;> omega) | ((repeat' refine And.intro ?_ ?_) <;> first | omega | rfl | exact Nat.le_refl _ | exact Nat.le_of_ble_eq_true rfl | exact bytesF_one _) | (simp_all; done) | (simp_all; omega))) ?_ | refine r_gobj rfl rfl rfl rfl (by (first | (simp only [List.length_append, List.length_cons, List.length_nil]; omega) | omega | exact Nat.le_of_ble_eq_true rfl | (simp only [wrap_u8, IntKind.wrap_i64, IntKind.wrap_i32, wrap_u32', wrap_u64', InI]; (repeat' refine And.intro ?_ ?_) <;> omega) | ((repeat' refine And.intro ?_ ?_) <;> first | omega | rfl | exact Nat.le_refl _ | exact Nat.le_of_ble_eq_true rfl | exact bytesF_one _) | (simp_all; done) | (simp_all; omega))) ?_
      | refine e_hit rfl ?_ | refine e_miss rfl ?_
      | refine ⟨by kernel_rfl, ?_⟩ | refine x_end rfl ?_ | refine r_call (f := 41) rfl rfl Tryd.call41 rfl c1 ?_ | refine r_call (f := 42) rfl rfl Tryd.call42 rfl n1 ?_ | refine r_call (f := 42) rfl rfl Tryd.call42 rfl n2 ?_ | refine r_call (f := 43) rfl rfl Tryd.call43 rfl n3 ?_ | refine r_call (f := 43) rfl rfl Tryd.call43 rfl n4 ?_ | refine r_call (f := 43) rfl rfl Tryd.call43 rfl p1 ?_ | refine r_call (f := 43) rfl rfl Tryd.call43 rfl p2 ?_ | refine r_call (f := 43) rfl rfl Tryd.call43 rfl p3 ?_ | refine r_call (f := 43) rfl rfl Tryd.call43 rfl p4 ?_ | refine r_call (f := 43) rfl rfl Tryd.call43 rfl p5 ?_ | refine r_call (f := 43) rfl rfl Tryd.call43 rfl p6 ?_ | ((with_reducible refine c_grd ?_); (fail_if_success (refine c_lit true rfl rfl rfl ?_)); (fail_if_success (refine c_lit false rfl rfl rfl ?_)); refine c_split rfl rfl (fun _ => ?_) (fun _ => ?_)))
    all_goals first
      | (rw [k1 (by omega)]
         rfl)
      | (rw [k2 (by omega)]
         rfl)
      | rw [k1 (by omega)]
      | rw [k2 (by omega)]
  · rw [e1] at c1
    dsimp only at c1
    rw [e2]
    clear e1 e2
    have n1 := rnum39_ctr e (by omega) (by omega)
    have l1 := itoa_lenI e (by omega) (by omega)
    have eX : arcE e = ([101, 114, 114, 111, 114, 32] ++ Lib.itoa e) ++ [10] := by
      unfold arcE
      simp
    rw [eX]
    clear eX
    generalize Lib.itoa e = A1 at *
    refine r_fun Tryd.func17 rfl Tryd.ntmps17 Tryd.results17 rfl rfl fun X hL hX => ?_
    repeat' (first
      | with_reducible refine t_seq ?_ | with_reducible refine t_region ?_ | with_reducible refine c_nil ?_ | with_reducible refine n_then ?_
      | with_reducible refine t_ret ?_ | with_reducible refine t_skip ?_ | with_reducible refine t_exit ?_ | with_reducible refine t_block ?_
      | with_reducible refine n_block ?_ | with_reducible refine e_then ?_ | with_reducible refine x_then ?_ | with_reducible refine x_block ?_ | with_reducible refine t_draw ?_
      | refine r_val rfl rfl True.intro ?_ | refine r_gskip rfl rfl rfl ?_ | refine r_gskip2 rfl rfl rfl ?_ | refine r_gval rfl rfl rfl rfl True.intro ?_
      | refine t_true rfl ?_ | refine t_false rfl ?_
      | ((first | refine t_cond_d rfl (fun _ => ?_) (fun _ => ?_) | refine t_cond_i rfl (fun _ => ?_) (fun _ => ?_) | refine t_cond_j rfl (fun _ => ?_) (fun _ => ?_) | refine t_cond_s rfl (fun _ => ?_) (fun _ => ?_) | refine t_cond_n rfl (fun _ => ?_) (fun _ => ?_) | refine t_cond rfl (fun _ => ?_) (fun _ => ?_) | refine c_split_d rfl rfl (fun _ => ?_) (fun _ => ?_) | refine c_split_i rfl rfl (fun _ => ?_) (fun _ => ?_) | refine c_split_j rfl rfl (fun _ => ?_) (fun _ => ?_) | refine c_split_s rfl rfl (fun _ => ?_) (fun _ => ?_) | refine c_split_n rfl rfl (fun _ => ?_) (fun _ => ?_)) <;> try (first | (rename_i hz; exact Bool.noConfusion (show true = false from hz)) | (rename_i hz; exact Bool.noConfusion (show false = true from hz)) | (exfalso; omega)))
      | refine r_val rfl rfl (by (first | (simp only [List.length_append, List.length_cons, List.length_nil]; omega) | omega | exact Nat.le_of_ble_eq_true rfl | (simp only [wrap_u8, IntKind.wrap_i64, IntKind.wrap_i32, wrap_u32', wrap_u64', InI]; (repeat' refine And.intro ?_ ?_) <;> omega) | ((repeat' refine And.intro ?_ ?_) <;> first | omega | rfl | exact Nat.le_refl _ | exact Nat.le_of_ble_eq_true rfl | exact bytesF_one _) | (simp_all; done) | (simp_all; omega))) ?_ | refine r_gval rfl rfl rfl rfl (by (first | (simp only [List.length_append, List.length_cons, List.length_nil]; omega) | omega | exact Nat.le_of_ble_eq_true rfl | (simp only [wrap_u8, IntKind.wrap_i64, IntKind.wrap_i32, wrap_u32', wrap_u64', InI]; (repeat' refine And.intro ?_ ?_) <;> omega) | ((repeat' refine And.intro ?_ ?_) <;> first | omega | rfl | exact Nat.le_refl _ | exact Nat.le_of_ble_eq_true rfl | exact bytesF_one _) | (simp_all; done) | (simp_all; omega))) ?_
      | refine r_obj rfl rfl (by (first | (simp only [List.length_append, List.length_cons, List.length_nil]; omega) | omega | exact Nat.le_of_ble_eq_true rfl | (simp only [wrap_u8, IntKind.wrap_i64, IntKind.wrap_i32, wrap_u32', wrap_u64', InI]; (repeat' refine And.intro ?_ ?_) <;> omega) | ((repeat' refine And.intro ?_ ?_) <;> first | omega | rfl | exact Nat.le_refl _ | exact Nat.le_of_ble_eq_true rfl | exact bytesF_one _) | (simp_all; done) | (simp_all; omega))) ?_ | refine r_sto rfl (by (first | (simp only [List.length_append, List.length_cons, List.length_nil]; omega) | omega | exact Nat.le_of_ble_eq_true rfl | (simp only [wrap_u8, IntKind.wrap_i64, IntKind.wrap_i32, wrap_u32', wrap_u64', InI]; (repeat' refine And.intro ?_ ?_) <;> omega) | ((repeat' refine And.intro ?_ ?_) <;> first | omega | rfl | exact Nat.le_refl _ | exact Nat.le_of_ble_eq_true rfl | exact bytesF_one _) | (simp_all; done) | (simp_all; omega))) ?_ | refine r_gobj rfl rfl rfl rfl (by (first | (simp only [List.length_append, List.length_cons, List.length_nil]; omega) | omega | exact Nat.le_of_ble_eq_true rfl | (simp only [wrap_u8, IntKind.wrap_i64, IntKind.wrap_i32, wrap_u32', wrap_u64', InI]; (repeat' refine And.intro ?_ ?_) <;> omega) | ((repeat' refine And.intro ?_ ?_) <;> first | omega | rfl | exact Nat.le_refl _ | exact Nat.le_of_ble_eq_true rfl | exact bytesF_one _) | (simp_all; done) | (simp_all; omega))) ?_
      | refine e_hit rfl ?_ | refine e_miss rfl ?_
      | refine ⟨by kernel_rfl, ?_⟩ | refine x_end rfl ?_ | refine r_call (f := 41) rfl rfl Tryd.call41 rfl c1 ?_ | refine r_call (f := 42) rfl rfl Tryd.call42 rfl n1 ?_ | ((with_reducible refine c_grd ?_); (fail_if_success (refine c_lit true rfl rfl rfl ?_)); (fail_if_success (refine c_lit false rfl rfl rfl ?_)); refine c_split rfl rfl (fun _ => ?_) (fun _ => ?_)))
    all_goals rfl

end Go.Proofs.YtinjdlckhmkmaaaDoor.Flow

/- REPORT: ReportPlaces' function. -/
namespace Go.Proofs.YtinjdlckhmkmaaaDoor.Flow
open Go

theorem live_path : pathT [(1, -2), (3, 4)] = [49, 44, 45, 50, 32, 51, 44, 52] := by decide +kernel
theorem live_place : placeT 3 1 2 = [51, 47, 49, 47, 50] := by decide +kernel

theorem live_ctrR : Ctr Tryd.prog 6 [] (.b true) := by
  have c1 := place_ctrR 3 1 2 (by decide) (by decide) (by decide)
  rw [live_place] at c1
  have ho : ptsOk [(1, -2), (3, 4)] := ⟨by decide, fun i hi => by
    match i, hi with
    | 0, _ => decide
    | 1, _ => decide⟩
  have c2 := path_ctrR [(1, -2), (3, 4)] ho
  rw [live_path] at c2
  have c3 : Ctr Tryd.prog 9 [.sl 2 2 (chunk 2 [.i .i64 1, .i .i64 (-2), .i .i64 3, .i .i64 4])] (.s [49, 44, 45, 50, 32, 51, 44, 52]) :=
    c2.weak1 (.sl 2 2 _ _ (fun i hi => match i, hi with
      | 0, _ => ⟨rfl, rfl⟩
      | 1, _ => ⟨rfl, rfl⟩) (fun i j hi hj => match i, hi with
      | 0, _ => match j, hj with
        | 0, _ => .refl _
        | 1, _ => .refl _
      | 1, _ => match j, hj with
        | 0, _ => .refl _
        | 1, _ => .refl _))
  refine r_fun Tryd.func6 rfl Tryd.ntmps6 Tryd.results6 rfl rfl fun X hL hX => ?_
  repeat' (first
    | with_reducible refine t_seq ?_ | with_reducible refine t_region ?_ | with_reducible refine c_nil ?_ | with_reducible refine n_then ?_
    | with_reducible refine t_ret ?_ | with_reducible refine t_skip ?_ | with_reducible refine t_exit ?_ | with_reducible refine t_block ?_
    | with_reducible refine n_block ?_ | with_reducible refine e_then ?_ | with_reducible refine x_then ?_ | with_reducible refine x_block ?_ | with_reducible refine t_draw ?_
    | refine r_val rfl rfl True.intro ?_ | refine r_gskip rfl rfl rfl ?_ | refine r_gskip2 rfl rfl rfl ?_ | refine r_gval rfl rfl rfl rfl True.intro ?_
    | refine t_true rfl ?_ | refine t_false rfl ?_
    | ((first | refine t_cond_d rfl (fun _ => ?_) (fun _ => ?_) | refine t_cond_i rfl (fun _ => ?_) (fun _ => ?_) | refine t_cond_j rfl (fun _ => ?_) (fun _ => ?_) | refine t_cond_s rfl (fun _ => ?_) (fun _ => ?_) | refine t_cond_n rfl (fun _ => ?_) (fun _ => ?_) | refine t_cond rfl (fun _ => ?_) (fun _ => ?_) | refine c_split_d rfl rfl (fun _ => ?_) (fun _ => ?_) | refine c_split_i rfl rfl (fun _ => ?_) (fun _ => ?_) | refine c_split_j rfl rfl (fun _ => ?_) (fun _ => ?_) | refine c_split_s rfl rfl (fun _ => ?_) (fun _ => ?_) | refine c_split_n rfl rfl (fun _ => ?_) (fun _ => ?_)) <;> try (first | (rename_i hz; exact Bool.noConfusion (show true = false from hz)) | (rename_i hz; exact Bool.noConfusion (show false = true from hz)) | (exfalso; omega)))
    | refine r_val rfl rfl (by (first | omega | exact Nat.le_of_ble_eq_true rfl | (simp only [wrap_u8, IntKind.wrap_i64, IntKind.wrap_i32, wrap_u32', wrap_u64', InI]; (repeat' refine And.intro ?_ ?_) <;> omega) | ((repeat' refine And.intro ?_ ?_) <;> first | omega | rfl | exact Nat.le_refl _ | exact Nat.le_of_ble_eq_true rfl | exact bytesF_one _) | (simp_all; done) | (simp_all; omega))) ?_ | refine r_gval rfl rfl rfl rfl (by (first | omega | exact Nat.le_of_ble_eq_true rfl | (simp only [wrap_u8, IntKind.wrap_i64, IntKind.wrap_i32, wrap_u32', wrap_u64', InI]; (repeat' refine And.intro ?_ ?_) <;> omega) | ((repeat' refine And.intro ?_ ?_) <;> first | omega | rfl | exact Nat.le_refl _ | exact Nat.le_of_ble_eq_true rfl | exact bytesF_one _) | (simp_all; done) | (simp_all; omega))) ?_
    | refine r_obj rfl rfl (by (first | omega | exact Nat.le_of_ble_eq_true rfl | (simp only [wrap_u8, IntKind.wrap_i64, IntKind.wrap_i32, wrap_u32', wrap_u64', InI]; (repeat' refine And.intro ?_ ?_) <;> omega) | ((repeat' refine And.intro ?_ ?_) <;> first | omega | rfl | exact Nat.le_refl _ | exact Nat.le_of_ble_eq_true rfl | exact bytesF_one _) | (simp_all; done) | (simp_all; omega))) ?_ | refine r_sto rfl (by (first | omega | exact Nat.le_of_ble_eq_true rfl | (simp only [wrap_u8, IntKind.wrap_i64, IntKind.wrap_i32, wrap_u32', wrap_u64', InI]; (repeat' refine And.intro ?_ ?_) <;> omega) | ((repeat' refine And.intro ?_ ?_) <;> first | omega | rfl | exact Nat.le_refl _ | exact Nat.le_of_ble_eq_true rfl | exact bytesF_one _) | (simp_all; done) | (simp_all; omega))) ?_ | refine r_gobj rfl rfl rfl rfl (by (first | omega | exact Nat.le_of_ble_eq_true rfl | (simp only [wrap_u8, IntKind.wrap_i64, IntKind.wrap_i32, wrap_u32', wrap_u64', InI]; (repeat' refine And.intro ?_ ?_) <;> omega) | ((repeat' refine And.intro ?_ ?_) <;> first | omega | rfl | exact Nat.le_refl _ | exact Nat.le_of_ble_eq_true rfl | exact bytesF_one _) | (simp_all; done) | (simp_all; omega))) ?_
    | refine e_hit rfl ?_ | refine e_miss rfl ?_
    | refine ⟨by kernel_rfl, ?_⟩ | refine x_end rfl ?_ | refine r_call (f := 7) rfl rfl Tryd.call7 rfl c1 ?_ | refine r_gcall (f := 9) rfl rfl rfl rfl Tryd.call9 rfl c3 ?_ | ((with_reducible refine c_grd ?_); (fail_if_success (refine c_lit true rfl rfl rfl ?_)); (fail_if_success (refine c_lit false rfl rfl rfl ?_)); refine c_split rfl rfl (fun _ => ?_) (fun _ => ?_)))
  all_goals first | rfl | (exfalso; rename_i h; exact h rfl)

end Go.Proofs.YtinjdlckhmkmaaaDoor.Flow

/-
  FLOW, PART Q: FROM A CONTRACT TO A STATEMENT: what a call that writes into new memory alone leaves of its arguments.
-/
namespace Go.Proofs.YtinjdlckhmkmaaaDoor.Flow
open Go.ChangeShapes Go.WideShapes Go.ChangeAt Go.RowKit

theorem prog_own : ownKnob Tryd.prog.godebug = none := by kernel_rfl
theorem prog_laid : laidOutB Tryd.prog = true := by kernel_rfl

variable {H : Type} {enc : TypeId × Value → H}

/-- The cells that are there when a call begins. -/
def allOf (W : World) : Cells := fun b _ => b < W.heap.size

theorem below_of_hist {W W' : World} {S' : Cells} (h : Hist { w0 := W, S0 := allOf W, L := fun _ => False } W' S') : Below W.heap.size W W' :=
  ⟨h.os, h.tape, h.output, h.size, fun k hk => h.block k hk (fun h => h)⟩

theorem trodAll_below {W W' : World} (hb : Below W.heap.size W W') {sp : Nat → Bool} : ∀ {ts : List TypeId} {vs : List Value} {ds : List (DataW H)} {ps : List MemPlace}, (∀ t ∈ ts, Tryd.prog.readableRec t = true ∧ t < Tryd.prog.types.size) → (∀ x ∈ ps, x.block < W.heap.size) →
    DataW.TrodAll enc Tryd.prog W 0 (fun _ => true) true ts vs ds ps → (∀ p ∈ ps, sp p.block = true) → DataW.TrodAll enc Tryd.prog W' 0 sp true ts vs ds ps
  | [], [], [], _, _, _, h, _ => h
  | [], [], _ :: _, _, _, _, h, _ => h.elim
  | [], _ :: _, _, _, _, _, h, _ => h.elim
  | _ :: _, [], _, _, _, _, h, _ => h.elim
  | _ :: _, _ :: _, [], _, _, _, h, _ => h.elim
  | t :: ts, v :: vs, d :: ds, ps, ht, hlt, h, hsp => by
    obtain ⟨p, q, h1, h2, rfl⟩ := h
    refine ⟨p, q, ?_, trodAll_below hb (fun t ht' => ht t (by simp [ht'])) (fun x hx => hlt x (by simp [hx])) h2 (fun x hx => hsp x (by simp [hx])), rfl⟩
    exact WideElems.Trod_stays prog_laid (ht t (by simp)).1 (ht t (by simp)).2 h1 (fun x hx => hb.same (hlt x (by simp [hx]))) (fun x hx => hsp x (by simp [hx]))

/-- THE STATEMENT's CONDITION BEHIND A CALL THAT ANSWERS true AND WRITES INTO NEW MEMORY ALONE. -/
theorem law_post {f : Func} {s : ChangeSpec} {apart fresh handsOn : Bool} {W W' : World} {args : Array Value} {ds gs : List (DataW H)} {before : List MemPlace} {t : TypeId}
    (hW : DataW.Whole enc Tryd.prog f.params.toList s.vars apart W args.toList ds gs before) (hvars : s.vars = []) (hpar : ∀ t ∈ f.params.toList, Tryd.prog.readableRec t = true ∧ t < Tryd.prog.types.size)
    (hres : f.resultTypes = #[t]) (ht : Tryd.prog.underlying t = some .bool) (hspec : s.fn H (ds ++ gs) = { results := [.lit (.bool true)], args := ds }) (hb : Below W.heap.size W W') :
    s.post enc Tryd.prog f apart fresh handsOn false W args (.bool true) W' := by
  have hW' := hW
  obtain ⟨p, q, hA, hV, rfl, hfz, hnd⟩ := hW
  rw [hvars] at hV
  have hq : gs = [] ∧ q = [] := by
    cases gs with
    | nil => exact ⟨rfl, hV⟩
    | cons => exact hV.elim
  obtain ⟨rfl, rfl⟩ := hq
  have hlt : ∀ x ∈ p, x.block < W.heap.size := fun x hx => by simpa using hW'.lt x (by simpa using hx)
  refine ⟨ds, [], p ++ [], [], p, [], hW', ?_, ?_, ?_, hb.frame _, fun h => nomatch h⟩
  · rw [hspec, hres]
    exact trodAll_mk1 (shut_bool ht true)
  · rw [hspec]
    exact trodAll_below hb hpar hlt hA (fun x hx => by simpa using hlt x hx)
  · rw [hspec, hvars]
    rfl

end Go.Proofs.YtinjdlckhmkmaaaDoor.Flow

/-
  FLOW, PART R: THE ARGUMENTS OPENED: a reading of them as data tells what the values are.
-/
namespace Go.Proofs.YtinjdlckhmkmaaaDoor.Flow
open Go.ChangeShapes Go.WideShapes Go.ChangeAt Go.RowKit

set_option maxRecDepth 100000
variable {H : Type} {enc : TypeId × Value → H} {W : World}

def strOf : DataW H → List UInt8
  | .lit (.string l) => l
  | _ => []
def intOf : DataW H → Int
  | .lit (.int _ n) => n
  | _ => 0
def boolOf : DataW H → Bool
  | .lit (.bool b) => b
  | _ => false
def kids : DataW H → List (DataW H)
  | .slice es _ => es
  | .agg ps => ps
  | _ => []

/-- What stands in memory for a type's data: so many cells, told by G. -/
def Tells (enc : TypeId × Value → H) (W : World) (t z : Nat) (G : DataW H → List D) : Prop :=
  ∀ fuel cs x, DataW.trod enc Tryd.prog W 0 (fun _ => true) true fuel t cs = some x → cs.length = z ∧ (G x.1).length = z ∧ (G x.1).all D.plain = true ∧ ∀ j, j < z → Rel (allOf W) W noRho ((G x.1).getD j .any) (cs.getD j undef)

theorem tells_str {t : TypeId} (ht : Tryd.prog.underlying t = some .string) : Tells enc W t 1 (fun d => [.s (strOf d)]) := fun fuel cs x h => by
  obtain ⟨s, rfl, rfl, _⟩ := DataW.trod_string ht h
  refine ⟨rfl, rfl, rfl, fun j hj => ?_⟩
  obtain rfl : j = 0 := by omega
  exact .s _ s.data.toList

theorem tells_int {t : TypeId} {k : IntKind} (ht : Tryd.prog.underlying t = some (.int k)) : Tells enc W t 1 (fun d => [.i k (intOf d)]) := fun fuel cs x h => by
  obtain ⟨n, rfl, rfl, _⟩ := DataW.trod_int ht h
  refine ⟨rfl, rfl, rfl, fun j hj => ?_⟩
  obtain rfl : j = 0 := by omega
  exact .i _ k n

theorem tells_bool {t : TypeId} (ht : Tryd.prog.underlying t = some .bool) : Tells enc W t 1 (fun d => [.b (boolOf d)]) := fun fuel cs x h => by
  obtain ⟨b, rfl, rfl⟩ := DataW.trod_bool ht h
  refine ⟨rfl, rfl, rfl, fun j hj => ?_⟩
  obtain rfl : j = 0 := by omega
  exact .b _ b

theorem tells_slice {t e z : Nat} {G : DataW H → List D} (ht : Tryd.prog.underlying t = some (.slice e)) (hc : Tryd.prog.cellsOf e = z) (hz : 0 < z) (hG : Tells enc W e z G) :
    Tells enc W t 1 (fun d => [.sl z (kids d).length (fun i => G ((kids d).getD i .nil))]) := fun fuel cs x h => by
  rcases DataW.trod_slice ht h with ⟨rfl, rfl⟩ | ⟨a, len, cap, elems, rest, n, rfl, rfl, rfl, hb, hl, hm, hlen, hel, _, _⟩
  · refine ⟨rfl, rfl, rfl, fun j hj => ?_⟩
    obtain rfl : j = 0 := by omega
    exact .sl _ z 0 _ none 0 (fun _ _ => undef) (Nat.le_refl _) (by unfold maxLen; omega) (fun i hi => by omega) (fun i j hi => by omega) (fun i j hi => by omega)
  · refine ⟨rfl, rfl, rfl, fun j hj => ?_⟩
    obtain rfl : j = 0 := by omega
    have each : ∀ i, i < len → ∃ cs' y, elems[i]? = some y ∧ W.cells? 0 (a.add (i * z)) z = some cs' ∧ DataW.trod enc Tryd.prog W 0 (fun _ => true) true n e cs' = some y := fun i hi => by
      have h1 := hel i hi
      have hi' : i < elems.length := by omega
      rw [hc, List.getElem?_eq_getElem hi'] at h1
      cases hcs : W.cells? 0 (a.add (i * z)) z with
      | none => rw [hcs] at h1; cases h1
      | some cs' =>
        rw [hcs] at h1
        exact ⟨cs', elems[i], List.getElem?_eq_getElem hi', rfl, h1⟩
    have hlen' : (elems.map (·.1)).length = len := by simp [hlen]
    have hk : ∀ i y, elems[i]? = some y → (elems.map (·.1)).getD i .nil = y.1 := fun i y hy => by
      simp [List.getD_eq_getElem?_getD, hy]
    have hspot : 0 < len → a.spot = none := fun h0 => by
      obtain ⟨cs', y, _, h2, h3⟩ := each 0 h0
      obtain ⟨_, hn, h4⟩ := World.cells?_some h2
      have h5 := h4 0 hz
      have hlt : 0 < cs'.length := by omega
      rw [List.getElem?_eq_getElem hlt] at h5
      cases hsp : a.spot with
      | none => rfl
      | some k =>
        exfalso
        simp only [Nat.zero_mul, Addr.add, if_true, World.cell?, hsp, Option.isSome_some] at h5
        split at h5 <;> simp at h5
    have hcl : ∀ i j, i < len → j < z → ∃ cs' y v, elems[i]? = some y ∧ DataW.trod enc Tryd.prog W 0 (fun _ => true) true n e cs' = some y ∧ cs'[j]? = some v ∧ W.cell? ⟨a.block, a.off + i * z + j, none⟩ = some v := fun i j hi hj => by
      obtain ⟨cs', y, h1, h2, h3⟩ := each i hi
      obtain ⟨_, hn, h4⟩ := World.cells?_some h2
      have h5 := h4 j hj
      have hlt : j < cs'.length := by omega
      rw [List.getElem?_eq_getElem hlt] at h5
      refine ⟨cs', y, cs'[j], h1, h3, List.getElem?_eq_getElem hlt, ?_⟩
      rw [← h5]
      have hsp := hspot (by omega)
      congr 1
      obtain ⟨ab, ao, asp⟩ := a
      simp only at hsp
      subst hsp
      simp only [Addr.add]
      split <;> split <;> simp_all <;> omega
    have hcell := fun i j hi hj => hcl i j hi hj
    show Rel (allOf W) W noRho (.sl z (elems.map (·.1)).length (fun i => G ((elems.map (·.1)).getD i .nil))) (.slice (some a) len cap)
    rw [hlen']
    refine .sl _ z len _ (some a) cap (fun i j => (W.cell? ⟨a.block, a.off + i * z + j, none⟩).getD undef) (by omega) hm (fun i hi => ?_) (fun i j hi hj => ?_) (fun i j hi hj => ?_)
    · obtain ⟨cs', y, h1, _, h3⟩ := each i hi
      rw [hk i y h1]
      have := hG _ _ _ h3
      exact ⟨this.2.1, this.2.2.1⟩
    · obtain ⟨cs', y, v, _, _, _, h4⟩ := hcl i j hi hj
      refine ⟨a.block, a.off, ?_, ?_, by rw [h4]; rfl⟩
      · have hsp := hspot (by omega)
        obtain ⟨ab, ao, asp⟩ := a
        simp only at hsp
        subst hsp
        rfl
      · show a.block < W.heap.size
        unfold World.cell? at h4
        split at h4
        · rename_i hh
          exact (Array.getElem?_eq_some_iff.1 hh).1
        · cases h4
    · obtain ⟨cs', y, v, h1, h2, h3, h4⟩ := hcl i j hi hj
      rw [hk i y h1, h4]
      have := (hG _ _ _ h2).2.2.2 j hj
      rw [List.getD_eq_getElem?_getD (l := cs'), h3] at this
      exact this

/-- A struct's fields, one behind the other. -/
inductive TellsF (enc : TypeId × Value → H) (W : World) : List Field → Nat → List (DataW H → List D) → Nat → Prop
  | nil (off : Nat) : TellsF enc W [] off [] off
  | cons (f : Field) (fs : List Field) (off z N : Nat) (G : DataW H → List D) (Gs : List (DataW H → List D)) (ho : f.offset = off) (hc : Tryd.prog.cellsOf f.type = z) (hG : Tells enc W f.type z G) (h : TellsF enc W fs (off + z) Gs N) : TellsF enc W (f :: fs) off (G :: Gs) N

def catG : List (DataW H → List D) → List (DataW H) → List D
  | [], _ => []
  | g :: r, l => g (l.getD 0 .nil) ++ catG r (l.drop 1)

theorem tellsF_rel {n : Nat} {cs : List Value} : ∀ {fs : List Field} {off N : Nat} {Gs : List (DataW H → List D)} {xs : List (DataW H × List MemPlace)}, TellsF enc W fs off Gs N → cs.length = N → xs.length = fs.length →
    (∀ (i : Nat) (f : Field), fs[i]? = some f → DataW.trod enc Tryd.prog W 0 (fun _ => true) true n f.type ((cs.drop f.offset).take (Tryd.prog.cellsOf f.type)) = xs[i]?) →
    (catG Gs (xs.map (·.1))).length + off = N ∧ (catG Gs (xs.map (·.1))).all D.plain = true ∧ ∀ j, off + j < N → Rel (allOf W) W noRho ((catG Gs (xs.map (·.1))).getD j .any) (cs.getD (off + j) undef)
  | [], off, N, Gs, xs, h, hN, hn, hx => by
    cases h
    exact ⟨by simp [catG], rfl, fun j hj => by omega⟩
  | f :: fs, off, N, Gs, xs, h, hN, hn, hx => by
    cases h with
    | cons _ _ _ z _ G Gs ho hc hG h =>
      match xs, hn with
      | x :: xs, hn =>
        have h0 := hx 0 f rfl
        rw [ho, hc] at h0
        obtain ⟨k1, k2, k3, k4⟩ := hG _ _ _ h0
        obtain ⟨i1, i2, i3⟩ := tellsF_rel (xs := xs) h hN (by simpa using hn) (fun i g hg => hx (i + 1) g hg)
        simp only [List.map_cons, catG, List.getD_cons_zero, List.drop_succ_cons, List.drop_zero]
        refine ⟨by rw [List.length_append]; omega, by rw [List.all_append, k3, i2]; rfl, fun j hj => ?_⟩
        by_cases hjz : j < z
        · have e1 : (G x.1 ++ catG Gs (xs.map (·.1))).getD j .any = (G x.1).getD j .any := by
            simp [List.getD_eq_getElem?_getD, List.getElem?_append_left (show j < (G x.1).length by omega)]
          rw [e1]
          have := k4 j hjz
          have e2 : ((cs.drop off).take z).getD j undef = cs.getD (off + j) undef := by
            simp [List.getD_eq_getElem?_getD, List.getElem?_take, hjz]
          rwa [e2] at this
        · have e1 : (G x.1 ++ catG Gs (xs.map (·.1))).getD j .any = (catG Gs (xs.map (·.1))).getD (j - z) .any := by
            simp only [List.getD_eq_getElem?_getD]
            rw [List.getElem?_append_right (by omega), k2]
          rw [e1]
          have := i3 (j - z) (by omega)
          rwa [show off + z + (j - z) = off + j by omega] at this

theorem tells_struct {t z : Nat} {fs : Array Field} {l : List Field} {Gs : List (DataW H → List D)} (ht : Tryd.prog.underlying t = some (.struct fs)) (hl : fs.toList = l) (hc : Tryd.prog.cellsOf t = z) (h : TellsF enc W l 0 Gs z) :
    Tells enc W t z (fun d => catG Gs (kids d)) := fun fuel cs x hx => by
  obtain ⟨xs, n, rfl, rfl, hlen, hn, hf⟩ := DataW.trod_struct ht hx
  rw [hc] at hlen
  have := tellsF_rel (n := n) (xs := xs) h hlen (by rw [hn, ← hl]; simp) (fun i f hi => hf i f (by rw [← hl] at hi; simpa using hi))
  refine ⟨hlen, by simpa [kids] using this.1, this.2.1, fun j hj => by simpa [kids] using this.2.2 j (by omega)⟩

/-- An array's elements, one behind the other. -/
theorem tells_array {t e z n m : Nat} {G : DataW H → List D} (ht : Tryd.prog.underlying t = some (.array n e)) (hc : Tryd.prog.cellsOf e = z) (hm : Tryd.prog.cellsOf t = m) (hnm : n * z = m) (hG : Tells enc W e z G) :
    Tells enc W t m (fun d => catG (List.replicate n G) (kids d)) := fun fuel cs x hx => by
  obtain ⟨xs, k, rfl, rfl, hlen, hn, hf⟩ := DataW.trod_array ht hx
  rw [hm] at hlen
  rw [hc] at hf
  have key : ∀ (n' : Nat) (ys : List (DataW H × List MemPlace)) (off : Nat), ys.length = n' → off * z + n' * z = m → (∀ i, i < n' → DataW.trod enc Tryd.prog W 0 (fun _ => true) true k e ((cs.drop ((off + i) * z)).take z) = ys[i]?) →
      (catG (List.replicate n' G) (ys.map (·.1))).length = n' * z ∧ (catG (List.replicate n' G) (ys.map (·.1))).all D.plain = true ∧ ∀ j, j < n' * z → Rel (allOf W) W noRho ((catG (List.replicate n' G) (ys.map (·.1))).getD j .any) (cs.getD (off * z + j) undef) := by
    intro n'
    induction n' with
    | zero => intro ys off _ _ _; exact ⟨by simp [catG], rfl, fun j hj => by omega⟩
    | succ n' ih =>
      intro ys off hy hoff hf
      match ys, hy with
      | y :: ys, hy =>
        have h0 := hf 0 (by omega)
        obtain ⟨k1, k2, k3, k4⟩ := hG _ _ _ h0
        obtain ⟨i1, i2, i3⟩ := ih ys (off + 1) (by simpa using hy) (by rw [Nat.add_mul] at hoff ⊢; omega) (fun i hi => by
          have := hf (i + 1) (by omega)
          rwa [show off + (i + 1) = off + 1 + i by omega] at this)
        simp only [List.replicate_succ, List.map_cons, catG, List.getD_cons_zero, List.drop_succ_cons, List.drop_zero]
        refine ⟨by rw [List.length_append, k2, i1, Nat.add_mul]; omega, by rw [List.all_append, k3, i2]; rfl, fun j hj => ?_⟩
        by_cases hjz : j < z
        · have e1 : (G y.1 ++ catG (List.replicate n' G) (ys.map (·.1))).getD j .any = (G y.1).getD j .any := by
            simp [List.getD_eq_getElem?_getD, List.getElem?_append_left (show j < (G y.1).length by omega)]
          rw [e1]
          have := k4 j hjz
          have e2 : ((cs.drop ((off + 0) * z)).take z).getD j undef = cs.getD (off * z + j) undef := by
            simp [List.getD_eq_getElem?_getD, List.getElem?_take, hjz]
          rwa [e2] at this
        · have e1 : (G y.1 ++ catG (List.replicate n' G) (ys.map (·.1))).getD j .any = (catG (List.replicate n' G) (ys.map (·.1))).getD (j - z) .any := by
            simp only [List.getD_eq_getElem?_getD]
            rw [List.getElem?_append_right (by omega), k2]
          rw [e1]
          have := i3 (j - z) (by rw [Nat.add_mul] at hj; omega)
          rwa [show (off + 1) * z + (j - z) = off * z + j by rw [Nat.add_mul]; omega] at this
  have := key n xs 0 hn (by omega) (fun i hi => by simpa using hf i hi)
  refine ⟨hlen, by rw [← hnm]; exact this.1, this.2.1, fun j hj => by simpa [kids] using this.2.2 j (by omega)⟩

/-! ### Arguments -/
theorem arg_str {base : Nat} {t : TypeId} {v : Value} {d : DataW H} {ps : List MemPlace} (ht : Tryd.prog.underlying t = some .string) (hv : Value.okWide Tryd.prog W .any base t v) (h : DataW.Trod enc Tryd.prog W 0 (fun _ => true) true t v d ps) : Rel (allOf W) W noRho (.s (strOf d)) v := by
  obtain ⟨s, rfl⟩ := okWide_string ht hv
  obtain ⟨fuel, hf⟩ := h
  have := (tells_str ht _ _ _ hf).2.2.2 0 (by omega)
  exact this
theorem arg_int {base : Nat} {t : TypeId} {k : IntKind} {v : Value} {d : DataW H} {ps : List MemPlace} (ht : Tryd.prog.underlying t = some (.int k)) (hv : Value.okWide Tryd.prog W .any base t v) (h : DataW.Trod enc Tryd.prog W 0 (fun _ => true) true t v d ps) : Rel (allOf W) W noRho (.i k (intOf d)) v := by
  obtain ⟨s, rfl⟩ := okWide_int ht hv
  obtain ⟨fuel, hf⟩ := h
  have := (tells_int ht _ _ _ hf).2.2.2 0 (by omega)
  exact this
theorem arg_bool {base : Nat} {t : TypeId} {v : Value} {d : DataW H} {ps : List MemPlace} (ht : Tryd.prog.underlying t = some .bool) (hv : Value.okWide Tryd.prog W .any base t v) (h : DataW.Trod enc Tryd.prog W 0 (fun _ => true) true t v d ps) : Rel (allOf W) W noRho (.b (boolOf d)) v := by
  obtain ⟨s, rfl⟩ := okWide_bool ht hv
  obtain ⟨fuel, hf⟩ := h
  have := (tells_bool ht _ _ _ hf).2.2.2 0 (by omega)
  exact this
theorem arg_slice {base : Nat} {t e z : Nat} {v : Value} {d : DataW H} {ps : List MemPlace} {G : DataW H → List D} (ht : Tryd.prog.underlying t = some (.slice e)) (hc : Tryd.prog.cellsOf e = z) (hz : 0 < z) (hG : Tells enc W e z G)
    (hv : Value.okWide Tryd.prog W .any base t v) (h : DataW.Trod enc Tryd.prog W 0 (fun _ => true) true t v d ps) : Rel (allOf W) W noRho (.sl z (kids d).length (fun i => G ((kids d).getD i .nil))) v := by
  obtain ⟨a, len, cap, rfl⟩ := okWide_slice ht hv
  obtain ⟨fuel, hf⟩ := h
  have := (tells_slice ht hc hz hG _ _ _ hf).2.2.2 0 (by omega)
  exact this
theorem arg_struct {base : Nat} {t z : Nat} {fs : Array Field} {v : Value} {d : DataW H} {ps : List MemPlace} {G : DataW H → List D} (ht : Tryd.prog.underlying t = some (.struct fs)) (hG : Tells enc W t z G)
    (hv : Value.okWide Tryd.prog W .any base t v) (h : DataW.Trod enc Tryd.prog W 0 (fun _ => true) true t v d ps) : Rel (allOf W) W noRho (.ag (G d)) v := by
  obtain ⟨cs, rfl, hs⟩ := okWide_struct ht hv
  obtain ⟨fuel, hf⟩ := h
  obtain ⟨h1, h2, h3, h4⟩ := hG _ _ _ hf
  replace h2 : (G d).length = z := h2
  have h1' : cs.size = z := by simpa [Value.cells] using h1
  refine .ag _ _ cs (by omega) (fun j hj => ?_)
  have := h4 j (by omega)
  simpa [Value.cells, Array.getD_eq_getD_getElem?, List.getD_eq_getElem?_getD] using this

/-! ### How much there is -/
theorem bulk_one (d : DataW H) : 1 ≤ Rows.uptoBulk d := by
  cases d with
  | lit l => cases l <;> simp [Rows.uptoBulk]
  | _ => simp [Rows.uptoBulk]

theorem bulk_mem {d : DataW H} : ∀ {l : List (DataW H)}, d ∈ l → Rows.uptoBulk d ≤ Rows.uptoBulkAll l
  | x :: r, h => by
    simp only [Rows.uptoBulkAll]
    rcases List.mem_cons.1 h with rfl | h
    · omega
    · have := bulk_mem h
      omega

theorem bulk_len : ∀ (l : List (DataW H)), l.length ≤ Rows.uptoBulkAll l
  | [] => by simp
  | x :: r => by
    have := bulk_one x
    have := bulk_len r
    simp only [Rows.uptoBulkAll, List.length_cons]
    omega

theorem bulk_kids (d : DataW H) : Rows.uptoBulkAll (kids d) ≤ Rows.uptoBulk d := by
  cases d <;> simp [kids, Rows.uptoBulk, Rows.uptoBulkAll] <;> omega

theorem bulk_str (d : DataW H) : (strOf d).length ≤ Rows.uptoBulk d := by
  cases d with
  | lit l => cases l <;> simp [strOf, Rows.uptoBulk]
  | _ => simp [strOf]

/-- The same told by typed data. -/
theorem map_getD {α β : Type} (f : α → β) (l : List α) (a : α) (i : Nat) : (l.map f).getD i (f a) = f (l.getD i a) := by
  simp only [List.getD_eq_getElem?_getD, List.getElem?_map]
  cases l[i]? <;> rfl

end Go.Proofs.YtinjdlckhmkmaaaDoor.Flow

/- TYPED: a value among a row's arguments. -/
namespace Go.Proofs.YtinjdlckhmkmaaaDoor.Flow
open Go

section
variable {H : Type} {enc : TypeId × Value → H} {W : World}

/-- An unsigned word's number, below 2^64 whatever stands there. -/
def wordOf (d : DataW H) : Nat := (intOf d).toNat % 18446744073709551616

theorem wordOf_lt (d : DataW H) : wordOf d < 18446744073709551616 := Nat.mod_lt _ (by decide)

theorem tells_word {t : TypeId} (ht : Tryd.prog.underlying t = some (.int .u64)) : Tells enc W t 1 (fun d => [.i .u64 (wordOf d : Nat)]) := fun fuel cs x h => by
  obtain ⟨n, rfl, rfl, hw⟩ := DataW.trod_int ht h
  refine ⟨rfl, rfl, rfl, fun j hj => ?_⟩
  obtain rfl : j = 0 := by omega
  have e1 : IntKind.u64.min ≤ n ∧ n ≤ IntKind.u64.max := by simpa [Lit.wf] using hw
  have e2 : IntKind.u64.min = 0 := by decide
  have e3 : IntKind.u64.max = 18446744073709551616 - 1 := by decide
  have e : ((wordOf (H := H) (.lit (.int .u64 n)) : Nat) : Int) = n := by
    show (((n.toNat % 18446744073709551616 : Nat)) : Int) = n
    omega
  dsimp only
  rw [e]
  exact .i _ .u64 n

set_option maxRecDepth 100000 in
theorem tells_value : Tells enc W 27 3 (fun d : DataW H => catG [fun d => [.i .i64 (intOf d)], fun d => [.s (strOf d)], fun d => [.i .u64 (wordOf d : Nat)]] (kids d)) :=
  tells_struct Tryd.underlying27 rfl (by kernel_rfl) (.cons _ _ 0 1 3 _ _ rfl (by kernel_rfl) (tells_int Tryd.underlying3) (.cons _ _ 1 1 3 _ _ rfl (by kernel_rfl) (tells_str Tryd.underlying9) (.cons _ _ 2 1 3 _ _ rfl (by kernel_rfl) (tells_word Tryd.underlying25) (.nil 3))))

set_option maxRecDepth 100000 in
theorem arg_value {base : Nat} {v : Value} {d : DataW H} {ps : List MemPlace} (hv : Value.okWide Tryd.prog W .any base 27 v) (h : DataW.Trod enc Tryd.prog W 0 (fun _ => true) true 27 v d ps) :
    ∃ (k : Int) (s : List UInt8) (b : Nat), b < 18446744073709551616 ∧ Rel (allOf W) W noRho (.ag [.i .i64 k, .s s, .i .u64 (b : Nat)]) v := by
  have h1 := tells_value (H := H) (enc := enc) (W := W)
  have h2 := arg_struct (enc := enc) Tryd.underlying27 h1 hv h
  have hb : ∀ l : List (DataW H), ∃ (k : Int) (s : List UInt8) (b : Nat), b < 18446744073709551616 ∧ catG [fun d => [D.i .i64 (intOf d)], fun d => [D.s (strOf d)], fun d => [D.i .u64 (wordOf d : Nat)]] l = [D.i .i64 k, D.s s, D.i .u64 (b : Nat)] := fun l =>
    ⟨_, _, _, wordOf_lt _, rfl⟩
  obtain ⟨k, s, b, hlt, e⟩ := hb (kids d)
  refine ⟨k, s, b, hlt, ?_⟩
  have h2 : Rel (allOf W) W noRho (.ag (catG [fun d => [D.i .i64 (intOf d)], fun d => [D.s (strOf d)], fun d => [D.i .u64 (wordOf d : Nat)]] (kids d))) v := h2
  rwa [e] at h2
end

end Go.Proofs.YtinjdlckhmkmaaaDoor.Flow

/- REPORT: places, points and values among a row's arguments. -/
namespace Go.Proofs.YtinjdlckhmkmaaaDoor.Flow
open Go

section
variable {H : Type} {enc : TypeId × Value → H} {W : World}

/-- A number of int, in its range whatever stands there. -/
def numOf (d : DataW H) : Int := max (-9223372036854775808) (min 9223372036854775807 (intOf d))

theorem numOf_in (d : DataW H) : I64 (numOf d) := by
  unfold numOf
  constructor <;> omega

theorem tells_num {t : TypeId} (ht : Tryd.prog.underlying t = some (.int .i64)) : Tells enc W t 1 (fun d => [.i .i64 (numOf d)]) := fun fuel cs x h => by
  obtain ⟨n, rfl, rfl, hw⟩ := DataW.trod_int ht h
  refine ⟨rfl, rfl, rfl, fun j hj => ?_⟩
  obtain rfl : j = 0 := by omega
  have e1 : IntKind.i64.min ≤ n ∧ n ≤ IntKind.i64.max := by simpa [Lit.wf] using hw
  have e2 : IntKind.i64.min = -9223372036854775808 := by decide
  have e3 : IntKind.i64.max = 9223372036854775807 := by decide
  have e : numOf (H := H) (.lit (.int .i64 n)) = n := by
    show max (-9223372036854775808) (min 9223372036854775807 n) = n
    omega
  dsimp only
  rw [e]
  exact .i _ .i64 n

def gPt (d : DataW H) : List D := catG [fun d => [.i .i64 (numOf d)], fun d => [.i .i64 (numOf d)]] (kids d)
def ptOf (d : DataW H) : Int × Int := (numOf ((kids d).getD 0 .nil), numOf (((kids d).drop 1).getD 0 .nil))
def ptsOf (d : DataW H) : List (Int × Int) := (kids d).map ptOf
def place3 (d : DataW H) : Int × Int × Int := (numOf ((kids d).getD 0 .nil), numOf (((kids d).drop 1).getD 0 .nil), numOf ((((kids d).drop 1).drop 1).getD 0 .nil))

set_option maxRecDepth 100000 in
theorem tells_pt : Tells enc W 56 2 (gPt (H := H)) :=
  tells_struct Tryd.underlying56 rfl (by kernel_rfl) (.cons _ _ 0 1 2 _ _ rfl (by kernel_rfl) (tells_num Tryd.underlying3) (.cons _ _ 1 1 2 _ _ rfl (by kernel_rfl) (tells_num Tryd.underlying3) (.nil 2)))

theorem pts_told (l : List (DataW H)) : D.sl 2 l.length (fun i => gPt (l.getD i .nil)) = .sl 2 (l.map ptOf).length (ptF (l.map ptOf)) := by
  rw [List.length_map]
  congr 1
  funext i
  have e0 : ptOf (DataW.nil : DataW H) = (0, 0) := by
    unfold ptOf numOf
    rfl
  have e : (l.map ptOf).getD i (0, 0) = ptOf (l.getD i .nil) := by rw [← e0]; exact map_getD ptOf l .nil i
  unfold ptF
  rw [e]
  rfl

theorem pts_ok {l : List (DataW H)} (h : l.length ≤ 1048576) : ptsOk (l.map ptOf) := by
  refine ⟨by simpa using h, fun i hi => ?_⟩
  have hi' : i < l.length := by simpa using hi
  rw [List.getD_eq_getElem?_getD, List.getElem?_map, List.getElem?_eq_getElem hi']
  exact ⟨numOf_in _, numOf_in _⟩

theorem ptsOf_ok {d : DataW H} (h : Rows.uptoBulk d ≤ 1048576) : ptsOk (ptsOf d) := pts_ok (Nat.le_trans (bulk_len (kids d)) (Nat.le_trans (bulk_kids d) h))
theorem place3_ok (d : DataW H) : I64 (place3 d).1 ∧ I64 (place3 d).2.1 ∧ I64 (place3 d).2.2 := ⟨numOf_in _, numOf_in _, numOf_in _⟩

set_option maxRecDepth 100000 in
theorem arg_val {base : Nat} {v : Value} {d : DataW H} {ps : List MemPlace} (hv : Value.okWide Tryd.prog W .any base 27 v) (h : DataW.Trod enc Tryd.prog W 0 (fun _ => true) true 27 v d ps) (hb : Rows.uptoBulk d ≤ 1048576) :
    ∃ (k : Int) (s : List UInt8) (b : Nat), s.length ≤ 1048576 ∧ b < 18446744073709551616 ∧ Rel (allOf W) W noRho (vlD k s (b : Nat)) v := by
  have h2 := arg_struct (enc := enc) Tryd.underlying27 (tells_value (H := H) (enc := enc) (W := W)) hv h
  refine ⟨intOf ((kids d).getD 0 .nil), strOf (((kids d).drop 1).getD 0 .nil), wordOf ((((kids d).drop 1).drop 1).getD 0 .nil), ?_, wordOf_lt _, h2⟩
  have h3 := bulk_str (((kids d).drop 1).getD 0 .nil)
  have h4 : ((kids d).drop 1).getD 0 .nil = (kids d).getD 1 .nil := by simp [List.getD_eq_getElem?_getD]
  have h5 := bulk_kids d
  rw [h4] at h3
  have h6 : Rows.uptoBulk ((kids d).getD 1 .nil) ≤ Rows.uptoBulk d := by
    by_cases hi : 1 < (kids d).length
    · rw [List.getD_eq_getElem?_getD, List.getElem?_eq_getElem hi]
      exact Nat.le_trans (bulk_mem (List.getElem_mem hi)) h5
    · rw [List.getD_eq_getElem?_getD, List.getElem?_eq_none (by omega)]
      exact bulk_one d
  rw [h4]
  omega
end

end Go.Proofs.YtinjdlckhmkmaaaDoor.Flow

/-
  FLOW, PART V: A BUILDER OF TEXTS: a variable of two cells, of which the first is nil or its own address, and the second a row of bytes.
-/
namespace Go.Proofs.YtinjdlckhmkmaaaDoor.Flow
open Go

section
variable {P : Program} {X : Ctx} {n : Nat} {O : Nat → Option Own}

variable {o : Oper} {fr : Fr} {ow : Ow} {t k : Nat} {ty : TypeId} {x : Operand}

theorem cell_freeze (w : World) (a : Addr) (m : Nat) (p : Addr) : (w.freeze a m).cell? p = w.cell? p := by
  unfold World.freeze
  split
  · rfl
  · unfold World.cell?
    simp only [Array.getElem?_modify]
    by_cases h : a.block = p.block
    · rw [if_pos h]
      cases w.heap[p.block]? with
      | none => rfl
      | some o => cases o <;> rfl
    · rw [if_neg h]

theorem size_freeze (w : World) (a : Addr) (m : Nat) : (w.freeze a m).heap.size = w.heap.size := by
  unfold World.freeze
  split
  · rfl
  · simp

theorem block_freeze (w : World) (g o m j : Nat) (h : j ≠ g) : (w.freeze ⟨g, o, none⟩ m).heap[j]? = w.heap[j]? := by
  unfold World.freeze
  split
  · rfl
  · simp only [Array.getElem?_modify]
    rw [if_neg (fun e => h e.symm)]

theorem Chg.freeze (w : World) (S : Cells) (g m : Nat) : Chg w (w.freeze ⟨g, 0, none⟩ m) S (some g) where
  os := by unfold World.freeze; split <;> rfl
  tape := by unfold World.freeze; split <;> rfl
  output := by unfold World.freeze; split <;> rfl
  size := by rw [size_freeze]; omega
  block := fun j _ hne => block_freeze w g 0 m j (fun e => hne (by rw [e]))
  cell := fun b o _ => cell_freeze w _ m _

end

section
variable {X : Ctx} {n : Nat} {all rest : List Oper} {fr : Fr} {ow : Ow} {tr : List (List Nat × List Nat)} {K : Fr → Ow → List (List Nat × List Nat) → Prop}
variable {t k : Nat} {ty ty' : TypeId} {ps : String} {af : Array Edge} {x : Operand} {l : List UInt8}

end
end Go.Proofs.YtinjdlckhmkmaaaDoor.Flow

/- LIBS: strings.ReplaceAll, strings.Join, the builder's look at itself (the kit's contracts, laid at this seat), as Flow's. -/
namespace Go.Proofs.YtinjdlckhmkmaaaDoor.Flow
open Go

/-- Join's answer, in plain words. -/
def joinL (sep : List UInt8) : List (List UInt8) → List UInt8
  | [] => []
  | x :: xs => x ++ (xs.map fun y => sep ++ y).flatten

end Go.Proofs.YtinjdlckhmkmaaaDoor.Flow

/- A BUILDER: its bytes, and what is written into it (the builder is object 3). -/

namespace Go.Proofs.YtinjdlckhmkmaaaDoor.Flow
open Go

/-- A builder (3) whose bytes lie in the row 200. -/
def bl (l : List UInt8) : Ow := [(3, .bld 82 (.gs 200 1 l.length (bytesF l))), (200, .row 5 1 l.length)]

end Go.Proofs.YtinjdlckhmkmaaaDoor.Flow

/- REPORT: layers as texts, by both. -/
namespace Go.Proofs.YtinjdlckhmkmaaaDoor.Flow
open Go

def ftsF (l : List FeatR) : Nat → List D := fun i => featC (l.getD i dFR)
def layC (name : List UInt8) (ext : Int) (l : List FeatR) : List D := [.s name, .i .i64 ext, .sl 5 l.length (ftsF l)]

def linT (f : FeatR) : List UInt8 := [[32, 32], featT f, [10]].flatten
def layH (name : List UInt8) (ext : Int) (l : List FeatR) : List UInt8 := [[108, 97, 121, 101, 114, 32], quoteL name, [32, 101, 120, 116, 101, 110, 116, 32], Lib.itoa ext, [32, 102, 101, 97, 116, 117, 114, 101, 115, 32], Lib.itoa l.length, [10]].flatten
def layP (name : List UInt8) (ext : Int) (l : List FeatR) (i : Nat) : List UInt8 := layH name ext l ++ ((l.map linT).take i).flatten
def layT (name : List UInt8) (ext : Int) (l : List FeatR) : List UInt8 := layP name ext l l.length

end Go.Proofs.YtinjdlckhmkmaaaDoor.Flow

/- REPORT: layers as texts: the program's function. -/
namespace Go.Proofs.YtinjdlckhmkmaaaDoor.Flow
open Go

end Go.Proofs.YtinjdlckhmkmaaaDoor.Flow

/- REPORT: layers as texts: the reference's function. -/
namespace Go.Proofs.YtinjdlckhmkmaaaDoor.Flow
open Go

end Go.Proofs.YtinjdlckhmkmaaaDoor.Flow

/- REPORT: ReportLayers' function. -/
namespace Go.Proofs.YtinjdlckhmkmaaaDoor.Flow
open Go

structure FeatSm (f : FeatR) : Prop where
  id : f.id < 18446744073709551616
  np : f.paths.length ≤ 1048576
  ps : ∀ i, ptsOk (f.paths.getD i [])
  na : f.ats.length ≤ 1048576
  aso : ∀ i, (f.ats.getD i dA).1.length ≤ 1048576 ∧ (f.ats.getD i dA).2.2.1.length ≤ 1048576 ∧ 0 ≤ (f.ats.getD i dA).2.2.2 ∧ (f.ats.getD i dA).2.2.2 < 18446744073709551616

end Go.Proofs.YtinjdlckhmkmaaaDoor.Flow

/- REPORT: a layer among a row's arguments. -/
namespace Go.Proofs.YtinjdlckhmkmaaaDoor.Flow
open Go

section
variable {H : Type} {enc : TypeId × Value → H} {W : World}

abbrev k0 (d : DataW H) : DataW H := (kids d).getD 0 .nil
abbrev k1 (d : DataW H) : DataW H := ((kids d).drop 1).getD 0 .nil
abbrev k2 (d : DataW H) : DataW H := (((kids d).drop 1).drop 1).getD 0 .nil
abbrev k3 (d : DataW H) : DataW H := ((((kids d).drop 1).drop 1).drop 1).getD 0 .nil
abbrev k4 (d : DataW H) : DataW H := (((((kids d).drop 1).drop 1).drop 1).drop 1).getD 0 .nil

theorem bulk_in (d : DataW H) (l : List (DataW H)) (hl : ∀ x ∈ l, x ∈ kids d) (i : Nat) : Rows.uptoBulk (l.getD i .nil) ≤ Rows.uptoBulk d := by
  by_cases h : i < l.length
  · rw [List.getD_eq_getElem?_getD, List.getElem?_eq_getElem h, Option.getD_some]
    have := bulk_mem (hl _ (List.getElem_mem h))
    have := bulk_kids d
    omega
  · rw [List.getD_eq_getElem?_getD, List.getElem?_eq_none (by omega), Option.getD_none]
    exact bulk_one d

theorem bk0 (d : DataW H) (i : Nat) : Rows.uptoBulk ((kids d).getD i .nil) ≤ Rows.uptoBulk d := bulk_in d _ (fun _ h => h) i
theorem bk1 (d : DataW H) : Rows.uptoBulk (k1 d) ≤ Rows.uptoBulk d := bulk_in d _ (fun _ h => List.mem_of_mem_drop h) 0
theorem bk2 (d : DataW H) : Rows.uptoBulk (k2 d) ≤ Rows.uptoBulk d := bulk_in d _ (fun _ h => List.mem_of_mem_drop (List.mem_of_mem_drop h)) 0
theorem bk3 (d : DataW H) : Rows.uptoBulk (k3 d) ≤ Rows.uptoBulk d := bulk_in d _ (fun _ h => List.mem_of_mem_drop (List.mem_of_mem_drop (List.mem_of_mem_drop h))) 0
theorem bk4 (d : DataW H) : Rows.uptoBulk (k4 d) ≤ Rows.uptoBulk d := bulk_in d _ (fun _ h => List.mem_of_mem_drop (List.mem_of_mem_drop (List.mem_of_mem_drop (List.mem_of_mem_drop h)))) 0
theorem bkn (d : DataW H) : (kids d).length ≤ Rows.uptoBulk d := Nat.le_trans (bulk_len (kids d)) (bulk_kids d)

def gVal (d : DataW H) : List D := catG [fun d => [.i .i64 (intOf d)], fun d => [.s (strOf d)], fun d => [.i .u64 (wordOf d : Nat)]] (kids d)
def gAtt (d : DataW H) : List D := catG [fun d => [.s (strOf d)], gVal] (kids d)
def gPath (d : DataW H) : List D := [.sl 2 (kids d).length (fun i => gPt ((kids d).getD i .nil))]
def gPaths (d : DataW H) : List D := [.sl 1 (kids d).length (fun i => gPath ((kids d).getD i .nil))]
def gAtts (d : DataW H) : List D := [.sl 4 (kids d).length (fun i => gAtt ((kids d).getD i .nil))]
def gFeat (d : DataW H) : List D := catG [fun d => [.b (boolOf d)], fun d => [.i .u64 (wordOf d : Nat)], fun d => [.i .i64 (intOf d)], gPaths, gAtts] (kids d)
def gFeats (d : DataW H) : List D := [.sl 5 (kids d).length (fun i => gFeat ((kids d).getD i .nil))]
def gLay (d : DataW H) : List D := catG [fun d => [.s (strOf d)], fun d => [.i .i64 (numOf d)], gFeats] (kids d)

set_option maxRecDepth 100000 in
theorem tells_att : Tells enc W 79 4 (gAtt (H := H)) :=
  tells_struct Tryd.underlying79 rfl (by kernel_rfl) (.cons _ _ 0 1 4 _ _ rfl (by kernel_rfl) (tells_str Tryd.underlying9) (.cons _ _ 1 3 4 _ _ rfl (by kernel_rfl) tells_value (.nil 4)))

set_option maxRecDepth 100000 in
theorem tells_feat : Tells enc W 51 5 (gFeat (H := H)) :=
  tells_struct Tryd.underlying51 rfl (by kernel_rfl) (.cons _ _ 0 1 5 _ _ rfl (by kernel_rfl) (tells_bool Tryd.underlying4) (.cons _ _ 1 1 5 _ _ rfl (by kernel_rfl) (tells_word Tryd.underlying25)
    (.cons _ _ 2 1 5 _ _ rfl (by kernel_rfl) (tells_int Tryd.underlying3) (.cons _ _ 3 1 5 _ _ rfl (by kernel_rfl) (tells_slice Tryd.underlying48 (by kernel_rfl) (by omega) (tells_slice Tryd.underlying24 (by kernel_rfl) (by omega) tells_pt))
      (.cons _ _ 4 1 5 _ _ rfl (by kernel_rfl) (tells_slice Tryd.underlying49 (by kernel_rfl) (by omega) tells_att) (.nil 5))))))

set_option maxRecDepth 100000 in
theorem tells_layer : Tells enc W 44 3 (gLay (H := H)) :=
  tells_struct Tryd.underlying44 rfl (by kernel_rfl) (.cons _ _ 0 1 3 _ _ rfl (by kernel_rfl) (tells_str Tryd.underlying9) (.cons _ _ 1 1 3 _ _ rfl (by kernel_rfl) (tells_num Tryd.underlying3)
    (.cons _ _ 2 1 3 _ _ rfl (by kernel_rfl) (tells_slice Tryd.underlying42 (by kernel_rfl) (by omega) tells_feat) (.nil 3))))

def attOf (d : DataW H) : Att := (strOf (k0 d), intOf (k0 (k1 d)), strOf (k1 (k1 d)), ((wordOf (k2 (k1 d)) : Nat) : Int))
def featOf (d : DataW H) : FeatR := ⟨boolOf (k0 d), wordOf (k1 d), intOf (k2 d), (kids (k3 d)).map ptsOf, (kids (k4 d)).map attOf⟩

theorem atts_told (d : DataW H) : gAtts d = [.sl 4 ((kids d).map attOf).length (attF ((kids d).map attOf))] := by
  have h2 : (fun i => gAtt ((kids d).getD i .nil)) = attF ((kids d).map attOf) := by
    funext i
    have e0 : attOf (DataW.nil : DataW H) = dA := rfl
    have e : ((kids d).map attOf).getD i dA = attOf ((kids d).getD i .nil) := by rw [← e0]; exact map_getD attOf (kids d) .nil i
    unfold attF
    rw [e]
    rfl
  show [D.sl 4 (kids d).length (fun i => gAtt ((kids d).getD i .nil))] = _
  rw [h2, List.length_map]

theorem paths_told (d : DataW H) : gPaths d = [.sl 1 ((kids d).map ptsOf).length (pgF ((kids d).map ptsOf))] := by
  have h2 : (fun i => gPath ((kids d).getD i .nil)) = pgF ((kids d).map ptsOf) := by
    funext i
    have e0 : ptsOf (DataW.nil : DataW H) = [] := rfl
    have e : ((kids d).map ptsOf).getD i [] = ptsOf ((kids d).getD i .nil) := by rw [← e0]; exact map_getD ptsOf (kids d) .nil i
    unfold pgF pthF
    dsimp only
    rw [e]
    show [D.sl 2 _ _] = _
    rw [pts_told]
    rfl
  show [D.sl 1 (kids d).length (fun i => gPath ((kids d).getD i .nil))] = _
  rw [h2, List.length_map]

theorem feat_told (d : DataW H) : gFeat d = featC (featOf d) := by
  show [D.b (boolOf (k0 d))] ++ ([D.i .u64 (wordOf (k1 d) : Nat)] ++ ([D.i .i64 (intOf (k2 d))] ++ (gPaths (k3 d) ++ (gAtts (k4 d) ++ [])))) = _
  rw [paths_told, atts_told]
  rfl

theorem feats_told (d : DataW H) : gFeats d = [.sl 5 ((kids d).map featOf).length (ftsF ((kids d).map featOf))] := by
  have h2 : (fun i => gFeat ((kids d).getD i .nil)) = ftsF ((kids d).map featOf) := by
    funext i
    have e0 : featOf (DataW.nil : DataW H) = dFR := rfl
    have e : ((kids d).map featOf).getD i dFR = featOf ((kids d).getD i .nil) := by rw [← e0]; exact map_getD featOf (kids d) .nil i
    unfold ftsF
    rw [e, feat_told]
  show [D.sl 5 (kids d).length (fun i => gFeat ((kids d).getD i .nil))] = _
  rw [h2, List.length_map]

theorem lay_told (d : DataW H) : gLay d = layC (strOf (k0 d)) (numOf (k1 d)) ((kids (k2 d)).map featOf) := by
  show [D.s (strOf (k0 d))] ++ ([D.i .i64 (numOf (k1 d))] ++ (gFeats (k2 d) ++ [])) = _
  rw [feats_told]
  rfl

theorem featSm_of {d : DataW H} (h : Rows.uptoBulk d ≤ 1048576) : FeatSm (featOf d) := by
  have h3 := bk3 d
  have h4 := bk4 d
  refine ⟨wordOf_lt _, ?_, fun i => ?_, ?_, fun i => ?_⟩
  · show ((kids (k3 d)).map ptsOf).length ≤ _
    have := bkn (k3 d)
    rw [List.length_map]
    omega
  · show ptsOk (((kids (k3 d)).map ptsOf).getD i [])
    have e0 : ptsOf (DataW.nil : DataW H) = [] := rfl
    rw [show ((kids (k3 d)).map ptsOf).getD i [] = ptsOf ((kids (k3 d)).getD i .nil) by rw [← e0]; exact map_getD ptsOf _ .nil i]
    have := bk0 (k3 d) i
    exact ptsOf_ok (by omega)
  · show ((kids (k4 d)).map attOf).length ≤ _
    have := bkn (k4 d)
    rw [List.length_map]
    omega
  · show (((kids (k4 d)).map attOf).getD i dA).1.length ≤ _ ∧ (((kids (k4 d)).map attOf).getD i dA).2.2.1.length ≤ _ ∧ 0 ≤ (((kids (k4 d)).map attOf).getD i dA).2.2.2 ∧ (((kids (k4 d)).map attOf).getD i dA).2.2.2 < _
    have e0 : attOf (DataW.nil : DataW H) = dA := rfl
    rw [show ((kids (k4 d)).map attOf).getD i dA = attOf ((kids (k4 d)).getD i .nil) by rw [← e0]; exact map_getD attOf _ .nil i]
    have hb := bk0 (k4 d) i
    generalize (kids (k4 d)).getD i .nil = a at *
    have a0 := bulk_str (k0 a)
    have a1 : Rows.uptoBulk (k0 a) ≤ Rows.uptoBulk a := bk0 a 0
    have a2 := bk1 a
    have a3 := bulk_str (k1 (k1 a))
    have a4 := bk1 (k1 a)
    have a5 := wordOf_lt (k2 (k1 a))
    refine ⟨?_, ?_, ?_, ?_⟩
    · show (strOf (k0 a)).length ≤ _
      omega
    · show (strOf (k1 (k1 a))).length ≤ _
      omega
    · show (0 : Int) ≤ ((wordOf (k2 (k1 a)) : Nat) : Int)
      omega
    · show ((wordOf (k2 (k1 a)) : Nat) : Int) < _
      omega

set_option maxRecDepth 100000 in
theorem arg_layer {base : Nat} {v : Value} {d : DataW H} {ps : List MemPlace} (hv : Value.okWide Tryd.prog W .any base 44 v) (h : DataW.Trod enc Tryd.prog W 0 (fun _ => true) true 44 v d ps) (hb : Rows.uptoBulk d ≤ 1048576) :
    ∃ (name : List UInt8) (ext : Int) (l : List FeatR), name.length ≤ 1048576 ∧ I64 ext ∧ l.length ≤ 1048576 ∧ (∀ i, FeatSm (l.getD i dFR)) ∧ Rel (allOf W) W noRho (.ag (layC name ext l)) v := by
  have k := arg_struct (enc := enc) Tryd.underlying44 tells_layer hv h
  rw [lay_told] at k
  refine ⟨_, _, _, ?_, numOf_in _, ?_, fun i => ?_, k⟩
  · have := bulk_str (k0 d)
    have : Rows.uptoBulk (k0 d) ≤ Rows.uptoBulk d := bk0 d 0
    omega
  · have := bk2 d
    have := bkn (k2 d)
    rw [List.length_map]
    omega
  · have e0 : featOf (DataW.nil : DataW H) = dFR := rfl
    rw [show ((kids (k2 d)).map featOf).getD i dFR = featOf ((kids (k2 d)).getD i .nil) by rw [← e0]; exact map_getD featOf _ .nil i]
    have := bk2 d
    have := bk0 (k2 d) i
    exact featSm_of (by omega)
end

end Go.Proofs.YtinjdlckhmkmaaaDoor.Flow

/- REPORT: ReportAnswers' function; its arguments. -/
namespace Go.Proofs.YtinjdlckhmkmaaaDoor.Flow
open Go

set_option maxHeartbeats 4000000 in
theorem law_answers_ctr (st : Int) (hs : HdrL) (body b : List UInt8) (h : RspOk st hs body) (hb : b.length ≤ 1048576) :
    Ctr Tryd.prog 4 [.ag (rspC st hs body), bD b] (.b true) := by
  have cl := live_ctrR
  have c1 := answer_ctr st hs body h
  have c2 := ranswer_ctr st hs body h
  have c3 := archive_ctr b hb
  have c4 := rarchive_ctr b hb
  generalize ansT st hs body.length = R1 at *
  generalize arcT b = R2 at *
  have hn := h.nh
  have hq := h.hs
  have hbd := h.nb
  refine r_fun Tryd.func4 rfl Tryd.ntmps4 Tryd.results4 rfl rfl fun X hL hX => ?_
  repeat' (first
    | with_reducible refine t_seq ?_ | with_reducible refine t_region ?_ | with_reducible refine c_nil ?_ | with_reducible refine n_then ?_
    | with_reducible refine t_ret ?_ | with_reducible refine t_skip ?_ | with_reducible refine t_exit ?_ | with_reducible refine t_block ?_
    | with_reducible refine n_block ?_ | with_reducible refine e_then ?_ | with_reducible refine x_then ?_ | with_reducible refine x_block ?_ | with_reducible refine t_draw ?_
    | refine r_val rfl rfl True.intro ?_ | refine r_gskip rfl rfl rfl ?_ | refine r_gskip2 rfl rfl rfl ?_ | refine r_gval rfl rfl rfl rfl True.intro ?_
    | refine t_true rfl ?_ | refine t_false rfl ?_
    | ((first | refine t_cond_d rfl (fun _ => ?_) (fun _ => ?_) | refine t_cond_i rfl (fun _ => ?_) (fun _ => ?_) | refine t_cond_j rfl (fun _ => ?_) (fun _ => ?_) | refine t_cond_s rfl (fun _ => ?_) (fun _ => ?_) | refine t_cond_n rfl (fun _ => ?_) (fun _ => ?_) | refine t_cond rfl (fun _ => ?_) (fun _ => ?_) | refine c_split_d rfl rfl (fun _ => ?_) (fun _ => ?_) | refine c_split_i rfl rfl (fun _ => ?_) (fun _ => ?_) | refine c_split_j rfl rfl (fun _ => ?_) (fun _ => ?_) | refine c_split_s rfl rfl (fun _ => ?_) (fun _ => ?_) | refine c_split_n rfl rfl (fun _ => ?_) (fun _ => ?_)) <;> try (first | (rename_i hz; exact Bool.noConfusion (show true = false from hz)) | (rename_i hz; exact Bool.noConfusion (show false = true from hz)) | (exfalso; omega)))
    | refine r_val rfl rfl (by (first | omega | exact Nat.le_of_ble_eq_true rfl | (simp only [wrap_u8, IntKind.wrap_i64, IntKind.wrap_i32, wrap_u32', wrap_u64', InI]; (repeat' refine And.intro ?_ ?_) <;> omega) | ((repeat' refine And.intro ?_ ?_) <;> first | omega | rfl | exact Nat.le_refl _ | exact Nat.le_of_ble_eq_true rfl | exact bytesF_one _) | (simp_all; done) | (simp_all; omega))) ?_ | refine r_gval rfl rfl rfl rfl (by (first | omega | exact Nat.le_of_ble_eq_true rfl | (simp only [wrap_u8, IntKind.wrap_i64, IntKind.wrap_i32, wrap_u32', wrap_u64', InI]; (repeat' refine And.intro ?_ ?_) <;> omega) | ((repeat' refine And.intro ?_ ?_) <;> first | omega | rfl | exact Nat.le_refl _ | exact Nat.le_of_ble_eq_true rfl | exact bytesF_one _) | (simp_all; done) | (simp_all; omega))) ?_
    | refine r_obj rfl rfl (by (first | omega | exact Nat.le_of_ble_eq_true rfl | (simp only [wrap_u8, IntKind.wrap_i64, IntKind.wrap_i32, wrap_u32', wrap_u64', InI]; (repeat' refine And.intro ?_ ?_) <;> omega) | ((repeat' refine And.intro ?_ ?_) <;> first | omega | rfl | exact Nat.le_refl _ | exact Nat.le_of_ble_eq_true rfl | exact bytesF_one _) | (simp_all; done) | (simp_all; omega))) ?_ | refine r_sto rfl (by (first | omega | exact Nat.le_of_ble_eq_true rfl | (simp only [wrap_u8, IntKind.wrap_i64, IntKind.wrap_i32, wrap_u32', wrap_u64', InI]; (repeat' refine And.intro ?_ ?_) <;> omega) | ((repeat' refine And.intro ?_ ?_) <;> first | omega | rfl | exact Nat.le_refl _ | exact Nat.le_of_ble_eq_true rfl | exact bytesF_one _) | (simp_all; done) | (simp_all; omega))) ?_ | refine r_gobj rfl rfl rfl rfl (by (first | omega | exact Nat.le_of_ble_eq_true rfl | (simp only [wrap_u8, IntKind.wrap_i64, IntKind.wrap_i32, wrap_u32', wrap_u64', InI]; (repeat' refine And.intro ?_ ?_) <;> omega) | ((repeat' refine And.intro ?_ ?_) <;> first | omega | rfl | exact Nat.le_refl _ | exact Nat.le_of_ble_eq_true rfl | exact bytesF_one _) | (simp_all; done) | (simp_all; omega))) ?_
    | refine e_hit rfl ?_ | refine e_miss rfl ?_
    | refine ⟨by kernel_rfl, ?_⟩ | refine x_end rfl ?_ | refine r_call (f := 6) rfl rfl Tryd.call6 rfl cl ?_ | ((with_reducible refine c_grd ?_); (fail_if_success (refine c_lit true rfl rfl rfl ?_)); (fail_if_success (refine c_lit false rfl rfl rfl ?_)); refine c_split rfl rfl (fun _ => ?_) (fun _ => ?_)))
  all_goals try rfl
  refine T.loop hL (fun i : Nat => [(1, bD b), (2, .pv 2 0), (5, .i .i64 i)]) (fun _ => [(2, .var (rspC st hs body))]) (fun i => i ≤ hs.length) (fun i => hs.length - i) 0
    (Nat.zero_le _) ⟨⟨rfl, rfl, rfl, trivial⟩, ⟨rfl, trivial⟩, rfl, by rw [hX]; intro k hk; cases hk⟩ ?_
  intro i g1
  have hqi := hq i
  by_cases hi : i < hs.length
  · have hqi1 := hqi.1
    repeat' (first
      | with_reducible refine t_seq ?_ | with_reducible refine t_region ?_ | with_reducible refine c_nil ?_ | with_reducible refine n_then ?_
      | with_reducible refine t_ret ?_ | with_reducible refine t_skip ?_ | with_reducible refine t_exit ?_ | with_reducible refine t_block ?_
      | with_reducible refine n_block ?_ | with_reducible refine e_then ?_ | with_reducible refine x_then ?_ | with_reducible refine x_block ?_ | with_reducible refine t_draw ?_
      | refine r_val rfl rfl True.intro ?_ | refine r_gskip rfl rfl rfl ?_ | refine r_gskip2 rfl rfl rfl ?_ | refine r_gval rfl rfl rfl rfl True.intro ?_
      | refine t_true rfl ?_ | refine t_false rfl ?_
      | ((first | refine t_cond_d rfl (fun _ => ?_) (fun _ => ?_) | refine t_cond_i rfl (fun _ => ?_) (fun _ => ?_) | refine t_cond_j rfl (fun _ => ?_) (fun _ => ?_) | refine t_cond_s rfl (fun _ => ?_) (fun _ => ?_) | refine t_cond_n rfl (fun _ => ?_) (fun _ => ?_) | refine t_cond rfl (fun _ => ?_) (fun _ => ?_) | refine c_split_d rfl rfl (fun _ => ?_) (fun _ => ?_) | refine c_split_i rfl rfl (fun _ => ?_) (fun _ => ?_) | refine c_split_j rfl rfl (fun _ => ?_) (fun _ => ?_) | refine c_split_s rfl rfl (fun _ => ?_) (fun _ => ?_) | refine c_split_n rfl rfl (fun _ => ?_) (fun _ => ?_)) <;> try (first | (rename_i hz; exact Bool.noConfusion (show true = false from hz)) | (rename_i hz; exact Bool.noConfusion (show false = true from hz)) | (exfalso; omega)))
      | refine r_val rfl rfl (by (first | (simp only [Int.toNat_natCast]; omega) | omega | exact Nat.le_of_ble_eq_true rfl | (simp only [wrap_u8, IntKind.wrap_i64, IntKind.wrap_i32, wrap_u32', wrap_u64', InI]; (repeat' refine And.intro ?_ ?_) <;> omega) | ((repeat' refine And.intro ?_ ?_) <;> first | omega | rfl | exact Nat.le_refl _ | exact Nat.le_of_ble_eq_true rfl | exact bytesF_one _) | (simp_all; done) | (simp_all; omega))) ?_ | refine r_gval rfl rfl rfl rfl (by (first | (simp only [Int.toNat_natCast]; omega) | omega | exact Nat.le_of_ble_eq_true rfl | (simp only [wrap_u8, IntKind.wrap_i64, IntKind.wrap_i32, wrap_u32', wrap_u64', InI]; (repeat' refine And.intro ?_ ?_) <;> omega) | ((repeat' refine And.intro ?_ ?_) <;> first | omega | rfl | exact Nat.le_refl _ | exact Nat.le_of_ble_eq_true rfl | exact bytesF_one _) | (simp_all; done) | (simp_all; omega))) ?_
      | refine r_obj rfl rfl (by (first | (simp only [Int.toNat_natCast]; omega) | omega | exact Nat.le_of_ble_eq_true rfl | (simp only [wrap_u8, IntKind.wrap_i64, IntKind.wrap_i32, wrap_u32', wrap_u64', InI]; (repeat' refine And.intro ?_ ?_) <;> omega) | ((repeat' refine And.intro ?_ ?_) <;> first | omega | rfl | exact Nat.le_refl _ | exact Nat.le_of_ble_eq_true rfl | exact bytesF_one _) | (simp_all; done) | (simp_all; omega))) ?_ | refine r_sto rfl (by (first | (simp only [Int.toNat_natCast]; omega) | omega | exact Nat.le_of_ble_eq_true rfl | (simp only [wrap_u8, IntKind.wrap_i64, IntKind.wrap_i32, wrap_u32', wrap_u64', InI]; (repeat' refine And.intro ?_ ?_) <;> omega) | ((repeat' refine And.intro ?_ ?_) <;> first | omega | rfl | exact Nat.le_refl _ | exact Nat.le_of_ble_eq_true rfl | exact bytesF_one _) | (simp_all; done) | (simp_all; omega))) ?_ | refine r_gobj rfl rfl rfl rfl (by (first | (simp only [Int.toNat_natCast]; omega) | omega | exact Nat.le_of_ble_eq_true rfl | (simp only [wrap_u8, IntKind.wrap_i64, IntKind.wrap_i32, wrap_u32', wrap_u64', InI]; (repeat' refine And.intro ?_ ?_) <;> omega) | ((repeat' refine And.intro ?_ ?_) <;> first | omega | rfl | exact Nat.le_refl _ | exact Nat.le_of_ble_eq_true rfl | exact bytesF_one _) | (simp_all; done) | (simp_all; omega))) ?_
      | refine e_hit rfl ?_ | refine e_miss rfl ?_
      | refine ⟨by kernel_rfl, ?_⟩ | refine x_end rfl ?_ | refine r_call (f := 6) rfl rfl Tryd.call6 rfl cl ?_ | ((with_reducible refine c_grd ?_); (fail_if_success (refine c_lit true rfl rfl rfl ?_)); (fail_if_success (refine c_lit false rfl rfl rfl ?_)); refine c_split rfl rfl (fun _ => ?_) (fun _ => ?_)))
    all_goals first
      | exact ⟨i + 1, by omega, by omega, ⟨rfl, rfl, rfl, trivial⟩, ⟨rfl, trivial⟩, rfl, by rw [hX]; intro k hk; cases hk⟩
      | rfl
  · obtain rfl : i = hs.length := by omega
    repeat' (first
      | with_reducible refine t_seq ?_ | with_reducible refine t_region ?_ | with_reducible refine c_nil ?_ | with_reducible refine n_then ?_
      | with_reducible refine t_ret ?_ | with_reducible refine t_skip ?_ | with_reducible refine t_exit ?_ | with_reducible refine t_block ?_
      | with_reducible refine n_block ?_ | with_reducible refine e_then ?_ | with_reducible refine x_then ?_ | with_reducible refine x_block ?_ | with_reducible refine t_draw ?_
      | refine r_val rfl rfl True.intro ?_ | refine r_gskip rfl rfl rfl ?_ | refine r_gskip2 rfl rfl rfl ?_ | refine r_gval rfl rfl rfl rfl True.intro ?_
      | refine t_true rfl ?_ | refine t_false rfl ?_
      | ((first | refine t_cond_d rfl (fun _ => ?_) (fun _ => ?_) | refine t_cond_i rfl (fun _ => ?_) (fun _ => ?_) | refine t_cond_j rfl (fun _ => ?_) (fun _ => ?_) | refine t_cond_s rfl (fun _ => ?_) (fun _ => ?_) | refine t_cond_n rfl (fun _ => ?_) (fun _ => ?_) | refine t_cond rfl (fun _ => ?_) (fun _ => ?_) | refine c_split_d rfl rfl (fun _ => ?_) (fun _ => ?_) | refine c_split_i rfl rfl (fun _ => ?_) (fun _ => ?_) | refine c_split_j rfl rfl (fun _ => ?_) (fun _ => ?_) | refine c_split_s rfl rfl (fun _ => ?_) (fun _ => ?_) | refine c_split_n rfl rfl (fun _ => ?_) (fun _ => ?_)) <;> try (first | (rename_i hz; exact Bool.noConfusion (show true = false from hz)) | (rename_i hz; exact Bool.noConfusion (show false = true from hz)) | (exfalso; omega)))
      | refine r_val rfl rfl (by (first | omega | exact Nat.le_of_ble_eq_true rfl | (simp only [wrap_u8, IntKind.wrap_i64, IntKind.wrap_i32, wrap_u32', wrap_u64', InI]; (repeat' refine And.intro ?_ ?_) <;> omega) | ((repeat' refine And.intro ?_ ?_) <;> first | omega | rfl | exact Nat.le_refl _ | exact Nat.le_of_ble_eq_true rfl | exact bytesF_one _) | (simp_all; done) | (simp_all; omega))) ?_ | refine r_gval rfl rfl rfl rfl (by (first | omega | exact Nat.le_of_ble_eq_true rfl | (simp only [wrap_u8, IntKind.wrap_i64, IntKind.wrap_i32, wrap_u32', wrap_u64', InI]; (repeat' refine And.intro ?_ ?_) <;> omega) | ((repeat' refine And.intro ?_ ?_) <;> first | omega | rfl | exact Nat.le_refl _ | exact Nat.le_of_ble_eq_true rfl | exact bytesF_one _) | (simp_all; done) | (simp_all; omega))) ?_
      | refine r_obj rfl rfl (by (first | omega | exact Nat.le_of_ble_eq_true rfl | (simp only [wrap_u8, IntKind.wrap_i64, IntKind.wrap_i32, wrap_u32', wrap_u64', InI]; (repeat' refine And.intro ?_ ?_) <;> omega) | ((repeat' refine And.intro ?_ ?_) <;> first | omega | rfl | exact Nat.le_refl _ | exact Nat.le_of_ble_eq_true rfl | exact bytesF_one _) | (simp_all; done) | (simp_all; omega))) ?_ | refine r_sto rfl (by (first | omega | exact Nat.le_of_ble_eq_true rfl | (simp only [wrap_u8, IntKind.wrap_i64, IntKind.wrap_i32, wrap_u32', wrap_u64', InI]; (repeat' refine And.intro ?_ ?_) <;> omega) | ((repeat' refine And.intro ?_ ?_) <;> first | omega | rfl | exact Nat.le_refl _ | exact Nat.le_of_ble_eq_true rfl | exact bytesF_one _) | (simp_all; done) | (simp_all; omega))) ?_ | refine r_gobj rfl rfl rfl rfl (by (first | omega | exact Nat.le_of_ble_eq_true rfl | (simp only [wrap_u8, IntKind.wrap_i64, IntKind.wrap_i32, wrap_u32', wrap_u64', InI]; (repeat' refine And.intro ?_ ?_) <;> omega) | ((repeat' refine And.intro ?_ ?_) <;> first | omega | rfl | exact Nat.le_refl _ | exact Nat.le_of_ble_eq_true rfl | exact bytesF_one _) | (simp_all; done) | (simp_all; omega))) ?_
      | refine e_hit rfl ?_ | refine e_miss rfl ?_
      | refine ⟨by kernel_rfl, ?_⟩ | refine x_end rfl ?_ | refine r_call (f := 14) rfl rfl Tryd.call14 rfl c1 ?_ | refine r_call (f := 15) rfl rfl Tryd.call15 rfl c2 ?_ | refine r_gcall (f := 16) rfl rfl rfl rfl Tryd.call16 rfl c3 ?_ | refine r_gcall (f := 17) rfl rfl rfl rfl Tryd.call17 rfl c4 ?_ | refine r_gcall (f := 6) rfl rfl rfl rfl Tryd.call6 rfl cl ?_ | ((with_reducible refine c_grd ?_); (fail_if_success (refine c_lit true rfl rfl rfl ?_)); (fail_if_success (refine c_lit false rfl rfl rfl ?_)); refine c_split rfl rfl (fun _ => ?_) (fun _ => ?_)))
    all_goals first
      | rfl
      | (exfalso; simp_all; done)
      | exact congrArg D.b (by simp_all)

section
variable {H : Type} {enc : TypeId × Value → H} {W : World}

def oct (d : DataW H) : UInt8 := UInt8.ofNat (intOf d).toNat
def octs (d : DataW H) : List UInt8 := (kids d).map oct

theorem tells_oct {t : TypeId} (ht : Tryd.prog.underlying t = some (.int .u8)) : Tells enc W t 1 (fun d => [.i .u8 ((oct d).toNat : Int)]) := fun fuel cs x h => by
  obtain ⟨n, rfl, rfl, hw⟩ := DataW.trod_int ht h
  refine ⟨rfl, rfl, rfl, fun j hj => ?_⟩
  obtain rfl : j = 0 := by omega
  have e1 : IntKind.u8.min ≤ n ∧ n ≤ IntKind.u8.max := by simpa [Lit.wf] using hw
  have e2 : IntKind.u8.min = 0 := by decide
  have e3 : IntKind.u8.max = 255 := by decide
  have e : ((oct (H := H) (.lit (.int .u8 n))).toNat : Int) = n := by
    show ((UInt8.ofNat n.toNat).toNat : Int) = n
    rw [UInt8.toNat_ofNat']
    omega
  dsimp only
  rw [e]
  exact .i _ .u8 n

theorem octs_told (l : List (DataW H)) : D.sl 1 l.length (fun i => [D.i .u8 ((oct (l.getD i .nil)).toNat : Int)]) = .sl 1 (l.map oct).length (bytesF (l.map oct)) := by
  rw [List.length_map]
  congr 1
  funext i
  have e0 : oct (DataW.nil : DataW H) = 0 := rfl
  have e : (l.map oct).getD i 0 = oct (l.getD i .nil) := by rw [← e0]; exact map_getD oct l .nil i
  unfold bytesF
  rw [e]

set_option maxRecDepth 100000 in
theorem arg_octs {base : Nat} {v : Value} {d : DataW H} {ps : List MemPlace} (hv : Value.okWide Tryd.prog W .any base 35 v) (h : DataW.Trod enc Tryd.prog W 0 (fun _ => true) true 35 v d ps) :
    Rel (allOf W) W noRho (bD (octs d)) v := by
  have k := arg_slice (enc := enc) Tryd.underlying35 (by kernel_rfl) (by omega) (tells_oct Tryd.underlying5) hv h
  rwa [octs_told] at k

def gHed (d : DataW H) : List D := catG (List.replicate 2 fun d => [.s (strOf d)]) (kids d)
def hedOf (d : DataW H) : List UInt8 × List UInt8 := (strOf (k0 d), strOf (k1 d))
def gHeds (d : DataW H) : List D := [.sl 2 (kids d).length (fun i => gHed ((kids d).getD i .nil))]
def gOcts (d : DataW H) : List D := [.sl 1 (kids d).length (fun i => [D.i .u8 ((oct ((kids d).getD i .nil)).toNat : Int)])]
def gRsp (d : DataW H) : List D := catG [fun d => [.i .i64 (numOf d)], gHeds, gOcts] (kids d)

theorem heds_told (d : DataW H) : gHeds d = [.sl 2 ((kids d).map hedOf).length (hedF ((kids d).map hedOf))] := by
  have h2 : (fun i => gHed ((kids d).getD i .nil)) = hedF ((kids d).map hedOf) := by
    funext i
    have e0 : hedOf (DataW.nil : DataW H) = ([], []) := rfl
    have e : ((kids d).map hedOf).getD i ([], []) = hedOf ((kids d).getD i .nil) := by rw [← e0]; exact map_getD hedOf (kids d) .nil i
    unfold hedF
    rw [e]
    rfl
  show [D.sl 2 (kids d).length (fun i => gHed ((kids d).getD i .nil))] = _
  rw [h2, List.length_map]

theorem rsp_told (d : DataW H) : gRsp d = rspC (numOf (k0 d)) ((kids (k1 d)).map hedOf) (octs (k2 d)) := by
  show [D.i .i64 (numOf (k0 d))] ++ (gHeds (k1 d) ++ (gOcts (k2 d) ++ [])) = _
  rw [heds_told, show gOcts (k2 d) = [D.sl 1 (octs (k2 d)).length (bytesF (octs (k2 d)))] from congrArg (fun x => [x]) (octs_told (kids (k2 d)))]
  rfl

set_option maxRecDepth 100000 in
theorem tells_rsp : Tells enc W 37 3 (gRsp (H := H)) :=
  tells_struct Tryd.underlying37 rfl (by kernel_rfl) (.cons _ _ 0 1 3 _ _ rfl (by kernel_rfl) (tells_num Tryd.underlying3) (.cons _ _ 1 1 3 _ _ rfl (by kernel_rfl) (tells_slice Tryd.underlying34 (by kernel_rfl) (by omega) (tells_array (n := 2) (z := 1) Tryd.underlying38 (by kernel_rfl) (by kernel_rfl) rfl (tells_str Tryd.underlying9)))
    (.cons _ _ 2 1 3 _ _ rfl (by kernel_rfl) (tells_slice Tryd.underlying35 (by kernel_rfl) (by omega) (tells_oct Tryd.underlying5)) (.nil 3))))

set_option maxRecDepth 100000 in
theorem arg_rsp {base : Nat} {v : Value} {d : DataW H} {ps : List MemPlace} (hv : Value.okWide Tryd.prog W .any base 37 v) (h : DataW.Trod enc Tryd.prog W 0 (fun _ => true) true 37 v d ps) (hb : Rows.uptoBulk d ≤ 1048576) :
    ∃ (st : Int) (hs : HdrL) (body : List UInt8), RspOk st hs body ∧ Rel (allOf W) W noRho (.ag (rspC st hs body)) v := by
  have k := arg_struct (enc := enc) Tryd.underlying37 tells_rsp hv h
  rw [rsp_told] at k
  refine ⟨_, _, _, ⟨numOf_in _, ?_, fun i => ?_, ?_⟩, k⟩
  · have := bk1 d
    have := bkn (k1 d)
    rw [List.length_map]
    omega
  · have e0 : hedOf (DataW.nil : DataW H) = ([], []) := rfl
    rw [show ((kids (k1 d)).map hedOf).getD i ([], []) = hedOf ((kids (k1 d)).getD i .nil) by rw [← e0]; exact map_getD hedOf _ .nil i]
    have a0 := bk1 d
    have a1 := bk0 (k1 d) i
    generalize (kids (k1 d)).getD i .nil = a at *
    have a2 : Rows.uptoBulk (k0 a) ≤ Rows.uptoBulk a := bk0 a 0
    have a3 := bk1 a
    have a4 := bulk_str (k0 a)
    have a5 := bulk_str (k1 a)
    refine ⟨?_, ?_⟩
    · show (strOf (k0 a)).length ≤ _
      omega
    · show (strOf (k1 a)).length ≤ _
      omega
  · have := bk2 d
    have := bkn (k2 d)
    unfold octs
    rw [List.length_map]
    omega

theorem octs_len {d : DataW H} (h : Rows.uptoBulk d ≤ 1048576) : (octs d).length ≤ 1048576 := by
  have := bkn d
  unfold octs
  rw [List.length_map]
  omega
end

end Go.Proofs.YtinjdlckhmkmaaaDoor.Flow
