/- DEC: the program: closures over a place in a text. -/
import Derived.Test.YtenkmfahcmahkaaDoorDD3
namespace Go.Proofs.YtenkmfahcmahkaaDoor.Flow
open Go

/-- What Parse's closures share: the place, the text; and the first closure. -/
abbrev pO (s : List UInt8) (i : Int) : Ow := [(5, .var [.i .i64 i]), (1, .var [.s s])]
abbrev pF : D := .fn 53 [.pv 5 0, .pv 1 0]
abbrev pO3 (s : List UInt8) (i : Int) : Ow := [(5, .var [.i .i64 i]), (6, .var [pF]), (1, .var [.s s])]

theorem is_ctr (set : List UInt8) (p : Int → Prop) [DecidablePred p] (hp : ∀ c : Int, 0 ≤ c → c < 256 → (0 ≤ Lib.indexByte set c.toNat.toUInt8 ↔ p c)) (s : List UInt8) (i : Nat) (hs : s.length ≤ 1048576) (hi : i ≤ s.length) :
    CtrO Tryd.prog 53 [.s set, .pv 5 0, .pv 1 0] (pO s i) (.b (decide (i < s.length ∧ p (at' s i)))) (pO s i) := by
  have hr := at_range s i
  have h1 := hp (at' s i) hr.1 hr.2
  have c1 := indexByte_ctr set (at' s i)
  generalize Lib.indexByte set (at' s i).toNat.toUInt8 = z at h1 c1
  refine r_methM Tryd.func53 rfl Tryd.ntmps53 Tryd.results53 rfl rfl rfl rfl rfl fun X hL hX => ?_
  repeat' (first
    | with_reducible refine t_seq ?_ | with_reducible refine t_region ?_ | with_reducible refine c_nil ?_ | with_reducible refine n_then ?_
    | with_reducible refine t_ret ?_ | with_reducible refine t_skip ?_ | with_reducible refine t_exit ?_ | with_reducible refine t_block ?_
    | with_reducible refine n_block ?_ | with_reducible refine e_then ?_ | with_reducible refine x_then ?_ | with_reducible refine x_block ?_ | with_reducible refine t_draw ?_
    | refine r_val rfl rfl True.intro ?_ | refine r_gskip rfl rfl rfl ?_ | refine r_gskip2 rfl rfl rfl ?_ | refine r_gval rfl rfl rfl rfl True.intro ?_
    | refine t_true rfl ?_ | refine t_false rfl ?_
    | ((first | refine t_cond_d rfl (fun _ => ?_) (fun _ => ?_) | refine t_cond_i rfl (fun _ => ?_) (fun _ => ?_) | refine t_cond_j rfl (fun _ => ?_) (fun _ => ?_) | refine t_cond_s rfl (fun _ => ?_) (fun _ => ?_) | refine t_cond_n rfl (fun _ => ?_) (fun _ => ?_) | refine t_cond rfl (fun _ => ?_) (fun _ => ?_) | refine c_split_d rfl rfl (fun _ => ?_) (fun _ => ?_) | refine c_split_i rfl rfl (fun _ => ?_) (fun _ => ?_) | refine c_split_j rfl rfl (fun _ => ?_) (fun _ => ?_) | refine c_split_s rfl rfl (fun _ => ?_) (fun _ => ?_) | refine c_split_n rfl rfl (fun _ => ?_) (fun _ => ?_)) <;> try (first | contradiction | (exfalso; omega)))
    | refine r_val rfl rfl (by (first | omega | exact Nat.le_of_ble_eq_true rfl | (simp only [wrap_u8, IntKind.wrap_i64, IntKind.wrap_i32, wrap_u32', wrap_u64', InI]; (repeat' refine And.intro ?_ ?_) <;> omega) | ((repeat' refine And.intro ?_ ?_) <;> first | omega | rfl | exact Nat.le_refl _ | exact Nat.le_of_ble_eq_true rfl | exact bytesF_one _) | (simp_all; done) | (simp_all; omega))) ?_ | refine r_gval rfl rfl rfl rfl (by (first | omega | exact Nat.le_of_ble_eq_true rfl | (simp only [wrap_u8, IntKind.wrap_i64, IntKind.wrap_i32, wrap_u32', wrap_u64', InI]; (repeat' refine And.intro ?_ ?_) <;> omega) | ((repeat' refine And.intro ?_ ?_) <;> first | omega | rfl | exact Nat.le_refl _ | exact Nat.le_of_ble_eq_true rfl | exact bytesF_one _) | (simp_all; done) | (simp_all; omega))) ?_
    | refine r_obj rfl rfl (by (first | omega | exact Nat.le_of_ble_eq_true rfl | (simp only [wrap_u8, IntKind.wrap_i64, IntKind.wrap_i32, wrap_u32', wrap_u64', InI]; (repeat' refine And.intro ?_ ?_) <;> omega) | ((repeat' refine And.intro ?_ ?_) <;> first | omega | rfl | exact Nat.le_refl _ | exact Nat.le_of_ble_eq_true rfl | exact bytesF_one _) | (simp_all; done) | (simp_all; omega))) ?_ | refine r_sto rfl (by (first | omega | exact Nat.le_of_ble_eq_true rfl | (simp only [wrap_u8, IntKind.wrap_i64, IntKind.wrap_i32, wrap_u32', wrap_u64', InI]; (repeat' refine And.intro ?_ ?_) <;> omega) | ((repeat' refine And.intro ?_ ?_) <;> first | omega | rfl | exact Nat.le_refl _ | exact Nat.le_of_ble_eq_true rfl | exact bytesF_one _) | (simp_all; done) | (simp_all; omega))) ?_ | refine r_gobj rfl rfl rfl rfl (by (first | omega | exact Nat.le_of_ble_eq_true rfl | (simp only [wrap_u8, IntKind.wrap_i64, IntKind.wrap_i32, wrap_u32', wrap_u64', InI]; (repeat' refine And.intro ?_ ?_) <;> omega) | ((repeat' refine And.intro ?_ ?_) <;> first | omega | rfl | exact Nat.le_refl _ | exact Nat.le_of_ble_eq_true rfl | exact bytesF_one _) | (simp_all; done) | (simp_all; omega))) ?_
    | refine e_hit rfl ?_ | refine e_miss rfl ?_
    | refine ⟨by kernel_rfl, ?_⟩ | refine x_endM rfl ?_ ?_ | refine n_endM rfl ?_ ?_ | refine r_gcall (f := 51) rfl rfl rfl rfl Tryd.call51 rfl c1 ?_ | ((with_reducible refine c_grd ?_); (fail_if_success (refine c_lit true rfl rfl rfl ?_)); (fail_if_success (refine c_lit false rfl rfl rfl ?_)); refine c_split rfl rfl (fun _ => ?_) (fun _ => ?_)))
  · exact congrArg D.b (decide_eq_decide.2 ⟨fun h => ⟨by omega, h1.1 h⟩, fun h => h1.2 h.2⟩)
  · exact ⟨⟨rfl, rfl, trivial⟩⟩
  · rw [decide_eq_false (fun h => ‹¬ (i : Int) < s.length› (by omega))]
  · exact ⟨⟨rfl, rfl, trivial⟩⟩

theorem index_one (a : UInt8) (c : Int) (h0 : 0 ≤ c) (h1 : c < 256) : 0 ≤ Lib.indexByte [a] c.toNat.toUInt8 ↔ c = (a.toNat : Int) := by
  have e : (a == c.toNat.toUInt8) = decide (c = (a.toNat : Int)) := by
    rw [Bool.eq_iff_iff, beq_iff_eq, decide_eq_true_iff]
    constructor
    · rintro rfl
      have : c.toNat < 256 := by omega
      simp [Nat.toUInt8]
      omega
    · rintro rfl
      simp [Nat.toUInt8]
  unfold Lib.indexByte
  rw [e]
  by_cases h : c = (a.toNat : Int)
  · simp [h]
  · simp [h, Lib.indexByte]

theorem index_cons (a : UInt8) (l : List UInt8) (c : Int) (h0 : 0 ≤ c) (h1 : c < 256) : 0 ≤ Lib.indexByte (a :: l) c.toNat.toUInt8 ↔ c = (a.toNat : Int) ∨ 0 ≤ Lib.indexByte l c.toNat.toUInt8 := by
  have e : (a == c.toNat.toUInt8) = decide (c = (a.toNat : Int)) := by
    rw [Bool.eq_iff_iff, beq_iff_eq, decide_eq_true_iff]
    constructor
    · rintro rfl
      have : c.toNat < 256 := by omega
      simp [Nat.toUInt8]
      omega
    · rintro rfl
      simp [Nat.toUInt8]
  have hg := Lib.indexByte_ge l c.toNat.toUInt8
  conv => lhs; unfold Lib.indexByte
  rw [e]
  generalize Lib.indexByte l c.toNat.toUInt8 = z at *
  by_cases h : c = (a.toNat : Int)
  · simp [h]
  · by_cases hz : z = -1
    · simp [h, hz]
    · simp [h, hz]
      omega

theorem set_digits : ∀ c : Int, 0 ≤ c → c < 256 → (0 ≤ Lib.indexByte ({ data := #[48, 49, 50, 51, 52, 53, 54, 55, 56, 57] } : ByteArray).data.toList c.toNat.toUInt8 ↔ 48 ≤ c ∧ c ≤ 57) := fun c h0 h1 => by
  show 0 ≤ Lib.indexByte [48, 49, 50, 51, 52, 53, 54, 55, 56, 57] c.toNat.toUInt8 ↔ _
  rw [index_cons _ _ _ h0 h1, index_cons _ _ _ h0 h1, index_cons _ _ _ h0 h1, index_cons _ _ _ h0 h1, index_cons _ _ _ h0 h1, index_cons _ _ _ h0 h1, index_cons _ _ _ h0 h1, index_cons _ _ _ h0 h1, index_cons _ _ _ h0 h1, index_one _ _ h0 h1]
  simp
  omega
theorem set_1 (a : UInt8) : ∀ c : Int, 0 ≤ c → c < 256 → (0 ≤ Lib.indexByte [a] c.toNat.toUInt8 ↔ c = (a.toNat : Int)) := fun c h0 h1 => index_one a c h0 h1
theorem set_2 (a b : UInt8) : ∀ c : Int, 0 ≤ c → c < 256 → (0 ≤ Lib.indexByte [a, b] c.toNat.toUInt8 ↔ c = (a.toNat : Int) ∨ c = (b.toNat : Int)) := fun c h0 h1 => by rw [index_cons _ _ _ h0 h1, index_one _ _ h0 h1]

end Go.Proofs.YtenkmfahcmahkaaDoor.Flow
