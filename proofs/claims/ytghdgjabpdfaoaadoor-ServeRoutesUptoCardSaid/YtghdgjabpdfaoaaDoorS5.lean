/- The texts EW0, EV4, EV5, EV6, EV7, ELibs, ELibsI, one behind the other. -/
import Derived.Test.YtghdgjabpdfaoaaDoorS3
import Derived.Test.YtghdgjabpdfaoaaDoorS4
import Derived.Shelf.Strings.SlTrimAscii
import Derived.Lib.SplitLaws
import Derived.Lib.TrimByte
/- REQ: the library's functions (the kit's contracts, laid at this seat), as Flow's. -/
namespace Go.Proofs.YtghdgjabpdfaoaaDoor.Flow
open Go

theorem w_two {vs : Array Value} (h : vs.size = 2) : vs = #[vs.getD 0 undef, vs.getD 1 undef] := by
  obtain ⟨l⟩ := vs
  match l, h with
  | [a, b], _ => rfl

theorem w_same {w : World} {S : Cells} (hv : ∀ b o, S b o → b < w.heap.size) (hg : GOk S w) : Hist { w0 := w, S0 := S, L := fun _ => False } w S := hist_start w S _ hv hg

/-- A text split at another. -/
def splitL (s sep : List UInt8) : List (List UInt8) := (Lib.splitB ⟨sep.toArray⟩ 0 (Lib.countB ⟨s.toArray⟩ ⟨sep.toArray⟩) ⟨s.toArray⟩).map fun b => b.data.toList
def wxF (l : List (List UInt8)) : Nat → List D := fun i => [.s (l.getD i [])]

theorem splitL_len (s sep : List UInt8) (h1 : 1 ≤ sep.length) : (splitL s sep).length = Lib.countB ⟨s.toArray⟩ ⟨sep.toArray⟩ + 1 ∧ (splitL s sep).length ≤ s.length + 1 := by
  have h2 : 1 ≤ (ByteArray.mk sep.toArray).size := by simpa [ByteArray.size] using h1
  have h3 := Lib.splitB_all ⟨sep.toArray⟩ h2 0 _ ⟨s.toArray⟩ rfl
  have h4 := Lib.countB_le ⟨sep.toArray⟩ h2 (ByteArray.mk s.toArray).size ⟨s.toArray⟩ (Nat.le_refl _)
  have h5 : (ByteArray.mk s.toArray).size = s.length := by simp [ByteArray.size]
  unfold splitL
  rw [List.length_map, h3]
  omega

theorem w_split (s sep : List UInt8) (hs : s.length ≤ 4194304) (h1 : 1 ≤ sep.length) : Ctr Tryd.prog 26 [.s s, .s sep] (.sl 1 (splitL s sep).length (wxF (splitL s sep))) := by
  intro w S vs hv hg hn hr
  have h0 := hr 0 (by simp)
  have h2 := hr 1 (by simp)
  rw [w_two hn]
  generalize vs.getD 0 undef = v0 at *
  generalize vs.getD 1 undef = v1 at *
  cases h0
  cases h2
  obtain ⟨m, _, hm⟩ := hg.big 0 rfl
  obtain ⟨hl1, hl2⟩ := splitL_len s sep h1
  refine (Tryd.strings_Split ⟨s.toArray⟩ ⟨sep.toArray⟩ m w (by simp [ByteArray.size]; omega) hm (by simpa [ByteArray.size] using h1)).mono ?_
  rintro e w' ⟨rfl, rfl⟩
  rw [← hl1]
  have hc := Chg.alloc w S hv (.cells ((Lib.splitB ⟨sep.toArray⟩ 0 (Lib.countB ⟨s.toArray⟩ ⟨sep.toArray⟩) ⟨s.toArray⟩).map Value.string).toArray 9)
  refine ⟨_, fun b o => S b o ∨ (b = w.heap.size ∧ o < (splitL s sep).length), rfl, rel_row (c := fun i _ => .string ⟨((splitL s sep).getD i []).toArray⟩) (heap_alloc_new w _) (Nat.le_refl _) (by unfold maxLen; omega) (fun i j hi hj => ?_) (fun i j hi hj => .inr ⟨rfl, by omega⟩) (fun i hi => ⟨rfl, rfl⟩) (fun i j hi hj => ?_), ?_⟩
  · obtain rfl : j = 0 := by omega
    rw [Nat.mul_one, Nat.add_zero]
    unfold splitL at hi ⊢
    rw [List.length_map] at hi
    simp only [List.getElem?_toArray, List.getElem?_map, List.getD_eq_getElem?_getD, List.getElem?_eq_getElem hi, Option.map_some, Option.getD_some]
  · obtain rfl : j = 0 := by omega
    exact .s _ _
  · have := hist_start w S (fun _ => False) hv hg
    exact this.chg hc (fun b hb => by cases hb) (fun _ _ h => .inl h) (fun b o h => by
      rcases h with h | ⟨rfl, _⟩
      · exact .inl h
      · exact .inr ⟨.inl (Nat.le_refl _), by simp⟩)

end Go.Proofs.YtghdgjabpdfaoaaDoor.Flow

/- SERVE: names, numbers, ends; by both. -/
namespace Go.Proofs.YtghdgjabpdfaoaaDoor.Flow
open Go

theorem w_cutPrefix (s p : List UInt8) : Ctr Tryd.prog 23 [.s s, .s p] (.tu [.s (Lib.trimPrefix s p), .b (Lib.hasPrefix s p)]) := by
  intro w S vs hv hg hn hr
  have h0 := hr 0 (by simp)
  have h1 := hr 1 (by simp)
  rw [w_two hn]
  generalize vs.getD 0 undef = v0 at *
  generalize vs.getD 1 undef = v1 at *
  cases h0
  cases h1
  refine (Tryd.strings_CutPrefix ⟨s.toArray⟩ ⟨p.toArray⟩ w).mono ?_
  rintro e w' ⟨rfl, rfl⟩
  refine ⟨_, S, rfl, .tu _ _ _ rfl (fun j hj => ?_), w_same hv hg⟩
  match j, hj with
  | 0, _ => exact .s _ _
  | 1, _ => exact .b _ _

theorem w_cutSuffix (s p : List UInt8) (hs : s.length ≤ 9223372036854775807) : Ctr Tryd.prog 24 [.s s, .s p] (.tu [.s (Lib.trimSuffix s p), .b (Lib.hasSuffix s p)]) := by
  intro w S vs hv hg hn hr
  have h0 := hr 0 (by simp)
  have h1 := hr 1 (by simp)
  rw [w_two hn]
  generalize vs.getD 0 undef = v0 at *
  generalize vs.getD 1 undef = v1 at *
  cases h0
  cases h1
  refine (Tryd.strings_CutSuffix ⟨s.toArray⟩ ⟨p.toArray⟩ w (by simpa [ByteArray.size] using hs)).mono ?_
  rintro e w' ⟨rfl, rfl⟩
  refine ⟨_, S, rfl, .tu _ _ _ rfl (fun j hj => ?_), w_same hv hg⟩
  match j, hj with
  | 0, _ => exact .s _ _
  | 1, _ => exact .b _ _

/-! ### Bytes of one kind -/
theorem all_take {p : UInt8 → Bool} {s : List UInt8} {i : Nat} (h : i < s.length) : (s.take (i + 1)).all p = ((s.take i).all p && p (s.getD i 0)) := by
  rw [List.take_add_one, List.all_append]
  congr 1
  have : s[i]? = some (s.getD i 0) := by simp [List.getD_eq_getElem?_getD, h]
  rw [this]
  simp
theorem all_bad {p : UInt8 → Bool} {s : List UInt8} {i : Nat} (h : i < s.length) (hc : p (s.getD i 0) = false) : s.all p = false := by
  rw [List.all_eq_false]
  refine ⟨s.getD i 0, ?_, ?_⟩
  · rw [List.getD_eq_getElem?_getD, List.getElem?_eq_getElem h, Option.getD_some]
    exact List.getElem_mem h
  · rw [hc]
    exact Bool.false_ne_true
theorem at_nat (s : List UInt8) (i : Nat) : at' s i = ((s.getD i 0).toNat : Int) := by simp [at']

/-! ### Names -/
def nmC (c : UInt8) : Bool := (decide (97 ≤ c.toNat) && decide (c.toNat ≤ 122)) || (decide (48 ≤ c.toNat) && decide (c.toNat ≤ 57)) || decide (c.toNat = 95) || decide (c.toNat = 45)
def nmB (s : List UInt8) : Bool := s.all nmC && decide (0 < s.length ∧ s.length ≤ 64)

theorem nmC_t {c : UInt8} : nmC c = true ↔ (97 ≤ c.toNat ∧ c.toNat ≤ 122) ∨ (48 ≤ c.toNat ∧ c.toNat ≤ 57) ∨ c.toNat = 95 ∨ c.toNat = 45 := by
  simp only [nmC, Bool.or_eq_true, Bool.and_eq_true, decide_eq_true_eq]
  omega
theorem nmC_f {c : UInt8} : nmC c = false ↔ ¬ ((97 ≤ c.toNat ∧ c.toNat ≤ 122) ∨ (48 ≤ c.toNat ∧ c.toNat ≤ 57) ∨ c.toNat = 95 ∨ c.toNat = 45) := by
  rw [← nmC_t, Bool.not_eq_true]

set_option maxRecDepth 100000 in
theorem cname_ctr (s : List UInt8) (hs : s.length ≤ 4194304) : Ctr Tryd.prog 25 [.s s] (.b (nmB s)) := by
  refine r_fun Tryd.func25 rfl Tryd.ntmps25 Tryd.results25 rfl rfl fun X hL hX => ?_
  repeat' (first
    | with_reducible refine t_seq ?_ | with_reducible refine t_region ?_ | with_reducible refine c_nil ?_ | with_reducible refine n_then ?_
    | with_reducible refine t_ret ?_ | with_reducible refine t_skip ?_ | with_reducible refine t_exit ?_ | with_reducible refine t_block ?_
    | with_reducible refine n_block ?_ | with_reducible refine e_then ?_ | with_reducible refine x_then ?_ | with_reducible refine x_block ?_ | with_reducible refine t_draw ?_
    | refine r_val rfl rfl True.intro ?_ | refine r_gskip rfl rfl rfl ?_ | refine r_gskip2 rfl rfl rfl ?_ | refine r_gval rfl rfl rfl rfl True.intro ?_
    | refine t_true rfl ?_ | refine t_false rfl ?_
    | ((first | refine t_cond_d rfl (fun _ => ?_) (fun _ => ?_) | refine t_cond_i rfl (fun _ => ?_) (fun _ => ?_) | refine t_cond_j rfl (fun _ => ?_) (fun _ => ?_) | refine t_cond_s rfl (fun _ => ?_) (fun _ => ?_) | refine t_cond_n rfl (fun _ => ?_) (fun _ => ?_) | refine t_cond rfl (fun _ => ?_) (fun _ => ?_) | refine c_split_d rfl rfl (fun _ => ?_) (fun _ => ?_) | refine c_split_i rfl rfl (fun _ => ?_) (fun _ => ?_) | refine c_split_j rfl rfl (fun _ => ?_) (fun _ => ?_) | refine c_split_s rfl rfl (fun _ => ?_) (fun _ => ?_) | refine c_split_n rfl rfl (fun _ => ?_) (fun _ => ?_)) <;> try (first | contradiction | (exfalso; omega)))
    | refine r_val rfl rfl (by (first | omega | exact Nat.le_of_ble_eq_true rfl | (simp_all; done) | (simp_all; omega) | ((repeat' refine And.intro ?_ ?_) <;> first | omega | rfl | exact Nat.le_refl _ | exact Nat.le_of_ble_eq_true rfl | exact bytesF_one _ | (simp_all; done) | (simp_all; omega)))) ?_ | refine r_gval rfl rfl rfl rfl (by (first | omega | exact Nat.le_of_ble_eq_true rfl | (simp_all; done) | (simp_all; omega) | ((repeat' refine And.intro ?_ ?_) <;> first | omega | rfl | exact Nat.le_refl _ | exact Nat.le_of_ble_eq_true rfl | exact bytesF_one _ | (simp_all; done) | (simp_all; omega)))) ?_
    | refine r_obj rfl rfl (by (first | omega | exact Nat.le_of_ble_eq_true rfl | (simp_all; done) | (simp_all; omega) | ((repeat' refine And.intro ?_ ?_) <;> first | omega | rfl | exact Nat.le_refl _ | exact Nat.le_of_ble_eq_true rfl | exact bytesF_one _ | (simp_all; done) | (simp_all; omega)))) ?_ | refine r_sto rfl (by (first | omega | exact Nat.le_of_ble_eq_true rfl | (simp_all; done) | (simp_all; omega) | ((repeat' refine And.intro ?_ ?_) <;> first | omega | rfl | exact Nat.le_refl _ | exact Nat.le_of_ble_eq_true rfl | exact bytesF_one _ | (simp_all; done) | (simp_all; omega)))) ?_ | refine r_gobj rfl rfl rfl rfl (by (first | omega | exact Nat.le_of_ble_eq_true rfl | (simp_all; done) | (simp_all; omega) | ((repeat' refine And.intro ?_ ?_) <;> first | omega | rfl | exact Nat.le_refl _ | exact Nat.le_of_ble_eq_true rfl | exact bytesF_one _ | (simp_all; done) | (simp_all; omega)))) ?_
    | refine e_hit rfl ?_ | refine e_miss rfl ?_
    | refine ⟨by kernel_rfl, ?_⟩ | ((with_reducible refine c_grd ?_); (fail_if_success (refine c_lit true rfl rfl rfl ?_)); (fail_if_success (refine c_lit false rfl rfl rfl ?_)); refine c_split rfl rfl (fun _ => ?_) (fun _ => ?_)))
  refine T.loop hL (fun i : Nat => [(0, .s s), (6, .i .i64 s.length), (7, .i .i64 i)]) (fun _ => []) (fun i => i ≤ s.length ∧ (s.take i).all nmC = true) (fun i => s.length - i) 0 ⟨Nat.zero_le _, by simp⟩
    ⟨⟨rfl, rfl, rfl, trivial⟩, trivial, rfl, fun q hq => by rw [hX] at hq; simp at hq⟩ ?_
  rintro i ⟨hi, hall⟩
  by_cases hil : i < s.length
  · have hst := all_take (p := nmC) hil
    have ha := at_nat s i
    cases hc : nmC (s.getD i 0) with
    | true =>
      have hcc := nmC_t.1 hc
      have hna : (97 ≤ at' s i ∧ at' s i ≤ 122) ∨ (48 ≤ at' s i ∧ at' s i ≤ 57) ∨ at' s i = 95 ∨ at' s i = 45 := by omega
      clear hcc ha
      repeat' (first
        | with_reducible refine t_seq ?_ | with_reducible refine t_region ?_ | with_reducible refine c_nil ?_ | with_reducible refine n_then ?_
        | with_reducible refine t_ret ?_ | with_reducible refine t_skip ?_ | with_reducible refine t_exit ?_ | with_reducible refine t_block ?_
        | with_reducible refine n_block ?_ | with_reducible refine e_then ?_ | with_reducible refine x_then ?_ | with_reducible refine x_block ?_ | with_reducible refine t_draw ?_
        | refine r_val rfl rfl True.intro ?_ | refine r_gskip rfl rfl rfl ?_ | refine r_gskip2 rfl rfl rfl ?_ | refine r_gval rfl rfl rfl rfl True.intro ?_
        | refine t_true rfl ?_ | refine t_false rfl ?_
        | ((first | refine t_cond_d rfl (fun _ => ?_) (fun _ => ?_) | refine t_cond_i rfl (fun _ => ?_) (fun _ => ?_) | refine t_cond_j rfl (fun _ => ?_) (fun _ => ?_) | refine t_cond_s rfl (fun _ => ?_) (fun _ => ?_) | refine t_cond_n rfl (fun _ => ?_) (fun _ => ?_) | refine t_cond rfl (fun _ => ?_) (fun _ => ?_) | refine c_split_d rfl rfl (fun _ => ?_) (fun _ => ?_) | refine c_split_i rfl rfl (fun _ => ?_) (fun _ => ?_) | refine c_split_j rfl rfl (fun _ => ?_) (fun _ => ?_) | refine c_split_s rfl rfl (fun _ => ?_) (fun _ => ?_) | refine c_split_n rfl rfl (fun _ => ?_) (fun _ => ?_)) <;> try (first | contradiction | (exfalso; omega)))
        | refine r_val rfl rfl (by (first | omega | exact Nat.le_of_ble_eq_true rfl | (simp_all; done) | (simp_all; omega) | ((repeat' refine And.intro ?_ ?_) <;> first | omega | rfl | exact Nat.le_refl _ | exact Nat.le_of_ble_eq_true rfl | exact bytesF_one _ | (simp_all; done) | (simp_all; omega)))) ?_ | refine r_gval rfl rfl rfl rfl (by (first | omega | exact Nat.le_of_ble_eq_true rfl | (simp_all; done) | (simp_all; omega) | ((repeat' refine And.intro ?_ ?_) <;> first | omega | rfl | exact Nat.le_refl _ | exact Nat.le_of_ble_eq_true rfl | exact bytesF_one _ | (simp_all; done) | (simp_all; omega)))) ?_
        | refine r_obj rfl rfl (by (first | omega | exact Nat.le_of_ble_eq_true rfl | (simp_all; done) | (simp_all; omega) | ((repeat' refine And.intro ?_ ?_) <;> first | omega | rfl | exact Nat.le_refl _ | exact Nat.le_of_ble_eq_true rfl | exact bytesF_one _ | (simp_all; done) | (simp_all; omega)))) ?_ | refine r_sto rfl (by (first | omega | exact Nat.le_of_ble_eq_true rfl | (simp_all; done) | (simp_all; omega) | ((repeat' refine And.intro ?_ ?_) <;> first | omega | rfl | exact Nat.le_refl _ | exact Nat.le_of_ble_eq_true rfl | exact bytesF_one _ | (simp_all; done) | (simp_all; omega)))) ?_ | refine r_gobj rfl rfl rfl rfl (by (first | omega | exact Nat.le_of_ble_eq_true rfl | (simp_all; done) | (simp_all; omega) | ((repeat' refine And.intro ?_ ?_) <;> first | omega | rfl | exact Nat.le_refl _ | exact Nat.le_of_ble_eq_true rfl | exact bytesF_one _ | (simp_all; done) | (simp_all; omega)))) ?_
        | refine e_hit rfl ?_ | refine e_miss rfl ?_
        | refine ⟨by kernel_rfl, ?_⟩ | refine x_end rfl ?_ | refine n_end rfl ?_ | ((with_reducible refine c_grd ?_); (fail_if_success (refine c_lit true rfl rfl rfl ?_)); (fail_if_success (refine c_lit false rfl rfl rfl ?_)); refine c_split rfl rfl (fun _ => ?_) (fun _ => ?_)))
      all_goals exact ⟨i + 1, ⟨by omega, by rw [hst, hall, hc]; rfl⟩, by omega, ⟨rfl, rfl, congrArg (D.i .i64) (by omega), trivial⟩, trivial, rfl, fun q hq => by rw [hX] at hq; simp at hq⟩
    | false =>
      have hcc := nmC_f.1 hc
      have hna : ¬ ((97 ≤ at' s i ∧ at' s i ≤ 122) ∨ (48 ≤ at' s i ∧ at' s i ≤ 57) ∨ at' s i = 95 ∨ at' s i = 45) := by omega
      have hb : nmB s = false := by
        unfold nmB
        rw [all_bad hil hc]
        rfl
      rw [hb]
      clear hcc ha
      repeat' (first
        | with_reducible refine t_seq ?_ | with_reducible refine t_region ?_ | with_reducible refine c_nil ?_ | with_reducible refine n_then ?_
        | with_reducible refine t_ret ?_ | with_reducible refine t_skip ?_ | with_reducible refine t_exit ?_ | with_reducible refine t_block ?_
        | with_reducible refine n_block ?_ | with_reducible refine e_then ?_ | with_reducible refine x_then ?_ | with_reducible refine x_block ?_ | with_reducible refine t_draw ?_
        | refine r_val rfl rfl True.intro ?_ | refine r_gskip rfl rfl rfl ?_ | refine r_gskip2 rfl rfl rfl ?_ | refine r_gval rfl rfl rfl rfl True.intro ?_
        | refine t_true rfl ?_ | refine t_false rfl ?_
        | ((first | refine t_cond_d rfl (fun _ => ?_) (fun _ => ?_) | refine t_cond_i rfl (fun _ => ?_) (fun _ => ?_) | refine t_cond_j rfl (fun _ => ?_) (fun _ => ?_) | refine t_cond_s rfl (fun _ => ?_) (fun _ => ?_) | refine t_cond_n rfl (fun _ => ?_) (fun _ => ?_) | refine t_cond rfl (fun _ => ?_) (fun _ => ?_) | refine c_split_d rfl rfl (fun _ => ?_) (fun _ => ?_) | refine c_split_i rfl rfl (fun _ => ?_) (fun _ => ?_) | refine c_split_j rfl rfl (fun _ => ?_) (fun _ => ?_) | refine c_split_s rfl rfl (fun _ => ?_) (fun _ => ?_) | refine c_split_n rfl rfl (fun _ => ?_) (fun _ => ?_)) <;> try (first | contradiction | (exfalso; omega)))
        | refine r_val rfl rfl (by (first | omega | exact Nat.le_of_ble_eq_true rfl | (simp_all; done) | (simp_all; omega) | ((repeat' refine And.intro ?_ ?_) <;> first | omega | rfl | exact Nat.le_refl _ | exact Nat.le_of_ble_eq_true rfl | exact bytesF_one _ | (simp_all; done) | (simp_all; omega)))) ?_ | refine r_gval rfl rfl rfl rfl (by (first | omega | exact Nat.le_of_ble_eq_true rfl | (simp_all; done) | (simp_all; omega) | ((repeat' refine And.intro ?_ ?_) <;> first | omega | rfl | exact Nat.le_refl _ | exact Nat.le_of_ble_eq_true rfl | exact bytesF_one _ | (simp_all; done) | (simp_all; omega)))) ?_
        | refine r_obj rfl rfl (by (first | omega | exact Nat.le_of_ble_eq_true rfl | (simp_all; done) | (simp_all; omega) | ((repeat' refine And.intro ?_ ?_) <;> first | omega | rfl | exact Nat.le_refl _ | exact Nat.le_of_ble_eq_true rfl | exact bytesF_one _ | (simp_all; done) | (simp_all; omega)))) ?_ | refine r_sto rfl (by (first | omega | exact Nat.le_of_ble_eq_true rfl | (simp_all; done) | (simp_all; omega) | ((repeat' refine And.intro ?_ ?_) <;> first | omega | rfl | exact Nat.le_refl _ | exact Nat.le_of_ble_eq_true rfl | exact bytesF_one _ | (simp_all; done) | (simp_all; omega)))) ?_ | refine r_gobj rfl rfl rfl rfl (by (first | omega | exact Nat.le_of_ble_eq_true rfl | (simp_all; done) | (simp_all; omega) | ((repeat' refine And.intro ?_ ?_) <;> first | omega | rfl | exact Nat.le_refl _ | exact Nat.le_of_ble_eq_true rfl | exact bytesF_one _ | (simp_all; done) | (simp_all; omega)))) ?_
        | refine e_hit rfl ?_ | refine e_miss rfl ?_
        | refine ⟨by kernel_rfl, ?_⟩ | refine x_end rfl ?_ | refine n_end rfl ?_ | ((with_reducible refine c_grd ?_); (fail_if_success (refine c_lit true rfl rfl rfl ?_)); (fail_if_success (refine c_lit false rfl rfl rfl ?_)); refine c_split rfl rfl (fun _ => ?_) (fun _ => ?_)))
      all_goals rfl
  · have : i = s.length := by omega
    subst this
    rw [List.take_length] at hall
    have hb : nmB s = decide (0 < s.length ∧ s.length ≤ 64) := by
      unfold nmB
      rw [hall]
      rfl
    rw [hb]
    repeat' (first
      | with_reducible refine t_seq ?_ | with_reducible refine t_region ?_ | with_reducible refine c_nil ?_ | with_reducible refine n_then ?_
      | with_reducible refine t_ret ?_ | with_reducible refine t_skip ?_ | with_reducible refine t_exit ?_ | with_reducible refine t_block ?_
      | with_reducible refine n_block ?_ | with_reducible refine e_then ?_ | with_reducible refine x_then ?_ | with_reducible refine x_block ?_ | with_reducible refine t_draw ?_
      | refine r_val rfl rfl True.intro ?_ | refine r_gskip rfl rfl rfl ?_ | refine r_gskip2 rfl rfl rfl ?_ | refine r_gval rfl rfl rfl rfl True.intro ?_
      | refine t_true rfl ?_ | refine t_false rfl ?_
      | ((first | refine t_cond_d rfl (fun _ => ?_) (fun _ => ?_) | refine t_cond_i rfl (fun _ => ?_) (fun _ => ?_) | refine t_cond_j rfl (fun _ => ?_) (fun _ => ?_) | refine t_cond_s rfl (fun _ => ?_) (fun _ => ?_) | refine t_cond_n rfl (fun _ => ?_) (fun _ => ?_) | refine t_cond rfl (fun _ => ?_) (fun _ => ?_) | refine c_split_d rfl rfl (fun _ => ?_) (fun _ => ?_) | refine c_split_i rfl rfl (fun _ => ?_) (fun _ => ?_) | refine c_split_j rfl rfl (fun _ => ?_) (fun _ => ?_) | refine c_split_s rfl rfl (fun _ => ?_) (fun _ => ?_) | refine c_split_n rfl rfl (fun _ => ?_) (fun _ => ?_)) <;> try (first | contradiction | (exfalso; omega)))
      | refine r_val rfl rfl (by (first | omega | exact Nat.le_of_ble_eq_true rfl | (simp_all; done) | (simp_all; omega) | ((repeat' refine And.intro ?_ ?_) <;> first | omega | rfl | exact Nat.le_refl _ | exact Nat.le_of_ble_eq_true rfl | exact bytesF_one _ | (simp_all; done) | (simp_all; omega)))) ?_ | refine r_gval rfl rfl rfl rfl (by (first | omega | exact Nat.le_of_ble_eq_true rfl | (simp_all; done) | (simp_all; omega) | ((repeat' refine And.intro ?_ ?_) <;> first | omega | rfl | exact Nat.le_refl _ | exact Nat.le_of_ble_eq_true rfl | exact bytesF_one _ | (simp_all; done) | (simp_all; omega)))) ?_
      | refine r_obj rfl rfl (by (first | omega | exact Nat.le_of_ble_eq_true rfl | (simp_all; done) | (simp_all; omega) | ((repeat' refine And.intro ?_ ?_) <;> first | omega | rfl | exact Nat.le_refl _ | exact Nat.le_of_ble_eq_true rfl | exact bytesF_one _ | (simp_all; done) | (simp_all; omega)))) ?_ | refine r_sto rfl (by (first | omega | exact Nat.le_of_ble_eq_true rfl | (simp_all; done) | (simp_all; omega) | ((repeat' refine And.intro ?_ ?_) <;> first | omega | rfl | exact Nat.le_refl _ | exact Nat.le_of_ble_eq_true rfl | exact bytesF_one _ | (simp_all; done) | (simp_all; omega)))) ?_ | refine r_gobj rfl rfl rfl rfl (by (first | omega | exact Nat.le_of_ble_eq_true rfl | (simp_all; done) | (simp_all; omega) | ((repeat' refine And.intro ?_ ?_) <;> first | omega | rfl | exact Nat.le_refl _ | exact Nat.le_of_ble_eq_true rfl | exact bytesF_one _ | (simp_all; done) | (simp_all; omega)))) ?_
      | refine e_hit rfl ?_ | refine e_miss rfl ?_
      | refine ⟨by kernel_rfl, ?_⟩ | refine x_end rfl ?_ | refine n_end rfl ?_ | ((with_reducible refine c_grd ?_); (fail_if_success (refine c_lit true rfl rfl rfl ?_)); (fail_if_success (refine c_lit false rfl rfl rfl ?_)); refine c_split rfl rfl (fun _ => ?_) (fun _ => ?_)))
    all_goals
      refine congrArg D.b ?_
      rw [Bool.eq_iff_iff]
      simp only [decide_eq_true_eq, Bool.false_eq_true, true_iff, false_iff]
      omega

set_option maxRecDepth 100000 in
theorem rname_ctr (s : List UInt8) (hs : s.length ≤ 4194304) : Ctr Tryd.prog 30 [.s s] (.b (nmB s)) := by
  refine r_fun Tryd.func30 rfl Tryd.ntmps30 Tryd.results30 rfl rfl fun X hL hX => ?_
  repeat' (first
    | with_reducible refine t_seq ?_ | with_reducible refine t_region ?_ | with_reducible refine c_nil ?_ | with_reducible refine n_then ?_
    | with_reducible refine t_ret ?_ | with_reducible refine t_skip ?_ | with_reducible refine t_exit ?_ | with_reducible refine t_block ?_
    | with_reducible refine n_block ?_ | with_reducible refine e_then ?_ | with_reducible refine x_then ?_ | with_reducible refine x_block ?_ | with_reducible refine t_draw ?_
    | refine r_val rfl rfl True.intro ?_ | refine r_gskip rfl rfl rfl ?_ | refine r_gskip2 rfl rfl rfl ?_ | refine r_gval rfl rfl rfl rfl True.intro ?_
    | refine t_true rfl ?_ | refine t_false rfl ?_
    | ((first | refine t_cond_d rfl (fun _ => ?_) (fun _ => ?_) | refine t_cond_i rfl (fun _ => ?_) (fun _ => ?_) | refine t_cond_j rfl (fun _ => ?_) (fun _ => ?_) | refine t_cond_s rfl (fun _ => ?_) (fun _ => ?_) | refine t_cond_n rfl (fun _ => ?_) (fun _ => ?_) | refine t_cond rfl (fun _ => ?_) (fun _ => ?_) | refine c_split_d rfl rfl (fun _ => ?_) (fun _ => ?_) | refine c_split_i rfl rfl (fun _ => ?_) (fun _ => ?_) | refine c_split_j rfl rfl (fun _ => ?_) (fun _ => ?_) | refine c_split_s rfl rfl (fun _ => ?_) (fun _ => ?_) | refine c_split_n rfl rfl (fun _ => ?_) (fun _ => ?_)) <;> try (first | contradiction | (exfalso; omega)))
    | refine r_val rfl rfl (by (first | omega | exact Nat.le_of_ble_eq_true rfl | (simp_all; done) | (simp_all; omega) | ((repeat' refine And.intro ?_ ?_) <;> first | omega | rfl | exact Nat.le_refl _ | exact Nat.le_of_ble_eq_true rfl | exact bytesF_one _ | (simp_all; done) | (simp_all; omega)))) ?_ | refine r_gval rfl rfl rfl rfl (by (first | omega | exact Nat.le_of_ble_eq_true rfl | (simp_all; done) | (simp_all; omega) | ((repeat' refine And.intro ?_ ?_) <;> first | omega | rfl | exact Nat.le_refl _ | exact Nat.le_of_ble_eq_true rfl | exact bytesF_one _ | (simp_all; done) | (simp_all; omega)))) ?_
    | refine r_obj rfl rfl (by (first | omega | exact Nat.le_of_ble_eq_true rfl | (simp_all; done) | (simp_all; omega) | ((repeat' refine And.intro ?_ ?_) <;> first | omega | rfl | exact Nat.le_refl _ | exact Nat.le_of_ble_eq_true rfl | exact bytesF_one _ | (simp_all; done) | (simp_all; omega)))) ?_ | refine r_sto rfl (by (first | omega | exact Nat.le_of_ble_eq_true rfl | (simp_all; done) | (simp_all; omega) | ((repeat' refine And.intro ?_ ?_) <;> first | omega | rfl | exact Nat.le_refl _ | exact Nat.le_of_ble_eq_true rfl | exact bytesF_one _ | (simp_all; done) | (simp_all; omega)))) ?_ | refine r_gobj rfl rfl rfl rfl (by (first | omega | exact Nat.le_of_ble_eq_true rfl | (simp_all; done) | (simp_all; omega) | ((repeat' refine And.intro ?_ ?_) <;> first | omega | rfl | exact Nat.le_refl _ | exact Nat.le_of_ble_eq_true rfl | exact bytesF_one _ | (simp_all; done) | (simp_all; omega)))) ?_
    | refine e_hit rfl ?_ | refine e_miss rfl ?_
    | refine ⟨by kernel_rfl, ?_⟩ | ((with_reducible refine c_grd ?_); (fail_if_success (refine c_lit true rfl rfl rfl ?_)); (fail_if_success (refine c_lit false rfl rfl rfl ?_)); refine c_split rfl rfl (fun _ => ?_) (fun _ => ?_)))
  refine T.loop hL (fun i : Nat => [(0, .s s), (3, .i .i64 i)]) (fun _ => []) (fun i => i ≤ s.length ∧ (s.take i).all nmC = true) (fun i => s.length - i) 0 ⟨Nat.zero_le _, by simp⟩
    ⟨⟨rfl, rfl, trivial⟩, trivial, rfl, fun q hq => by rw [hX] at hq; simp at hq⟩ ?_
  rintro i ⟨hi, hall⟩
  by_cases hil : i < s.length
  · have hst := all_take (p := nmC) hil
    have ha := at_nat s i
    cases hc : nmC (s.getD i 0) with
    | true =>
      have hcc := nmC_t.1 hc
      have hna : (97 ≤ at' s i ∧ at' s i ≤ 122) ∨ (48 ≤ at' s i ∧ at' s i ≤ 57) ∨ at' s i = 95 ∨ at' s i = 45 := by omega
      clear hcc ha
      repeat' (first
        | with_reducible refine t_seq ?_ | with_reducible refine t_region ?_ | with_reducible refine c_nil ?_ | with_reducible refine n_then ?_
        | with_reducible refine t_ret ?_ | with_reducible refine t_skip ?_ | with_reducible refine t_exit ?_ | with_reducible refine t_block ?_
        | with_reducible refine n_block ?_ | with_reducible refine e_then ?_ | with_reducible refine x_then ?_ | with_reducible refine x_block ?_ | with_reducible refine t_draw ?_
        | refine r_val rfl rfl True.intro ?_ | refine r_gskip rfl rfl rfl ?_ | refine r_gskip2 rfl rfl rfl ?_ | refine r_gval rfl rfl rfl rfl True.intro ?_
        | refine t_true rfl ?_ | refine t_false rfl ?_
        | ((first | refine t_cond_d rfl (fun _ => ?_) (fun _ => ?_) | refine t_cond_i rfl (fun _ => ?_) (fun _ => ?_) | refine t_cond_j rfl (fun _ => ?_) (fun _ => ?_) | refine t_cond_s rfl (fun _ => ?_) (fun _ => ?_) | refine t_cond_n rfl (fun _ => ?_) (fun _ => ?_) | refine t_cond rfl (fun _ => ?_) (fun _ => ?_) | refine c_split_d rfl rfl (fun _ => ?_) (fun _ => ?_) | refine c_split_i rfl rfl (fun _ => ?_) (fun _ => ?_) | refine c_split_j rfl rfl (fun _ => ?_) (fun _ => ?_) | refine c_split_s rfl rfl (fun _ => ?_) (fun _ => ?_) | refine c_split_n rfl rfl (fun _ => ?_) (fun _ => ?_)) <;> try (first | contradiction | (exfalso; omega)))
        | refine r_val rfl rfl (by (first | omega | exact Nat.le_of_ble_eq_true rfl | (simp_all; done) | (simp_all; omega) | ((repeat' refine And.intro ?_ ?_) <;> first | omega | rfl | exact Nat.le_refl _ | exact Nat.le_of_ble_eq_true rfl | exact bytesF_one _ | (simp_all; done) | (simp_all; omega)))) ?_ | refine r_gval rfl rfl rfl rfl (by (first | omega | exact Nat.le_of_ble_eq_true rfl | (simp_all; done) | (simp_all; omega) | ((repeat' refine And.intro ?_ ?_) <;> first | omega | rfl | exact Nat.le_refl _ | exact Nat.le_of_ble_eq_true rfl | exact bytesF_one _ | (simp_all; done) | (simp_all; omega)))) ?_
        | refine r_obj rfl rfl (by (first | omega | exact Nat.le_of_ble_eq_true rfl | (simp_all; done) | (simp_all; omega) | ((repeat' refine And.intro ?_ ?_) <;> first | omega | rfl | exact Nat.le_refl _ | exact Nat.le_of_ble_eq_true rfl | exact bytesF_one _ | (simp_all; done) | (simp_all; omega)))) ?_ | refine r_sto rfl (by (first | omega | exact Nat.le_of_ble_eq_true rfl | (simp_all; done) | (simp_all; omega) | ((repeat' refine And.intro ?_ ?_) <;> first | omega | rfl | exact Nat.le_refl _ | exact Nat.le_of_ble_eq_true rfl | exact bytesF_one _ | (simp_all; done) | (simp_all; omega)))) ?_ | refine r_gobj rfl rfl rfl rfl (by (first | omega | exact Nat.le_of_ble_eq_true rfl | (simp_all; done) | (simp_all; omega) | ((repeat' refine And.intro ?_ ?_) <;> first | omega | rfl | exact Nat.le_refl _ | exact Nat.le_of_ble_eq_true rfl | exact bytesF_one _ | (simp_all; done) | (simp_all; omega)))) ?_
        | refine e_hit rfl ?_ | refine e_miss rfl ?_
        | refine ⟨by kernel_rfl, ?_⟩ | refine x_end rfl ?_ | refine n_end rfl ?_ | ((with_reducible refine c_grd ?_); (fail_if_success (refine c_lit true rfl rfl rfl ?_)); (fail_if_success (refine c_lit false rfl rfl rfl ?_)); refine c_split rfl rfl (fun _ => ?_) (fun _ => ?_)))
      all_goals exact ⟨i + 1, ⟨by omega, by rw [hst, hall, hc]; rfl⟩, by omega, ⟨rfl, congrArg (D.i .i64) (by omega), trivial⟩, trivial, rfl, fun q hq => by rw [hX] at hq; simp at hq⟩
    | false =>
      have hcc := nmC_f.1 hc
      have hna : ¬ ((97 ≤ at' s i ∧ at' s i ≤ 122) ∨ (48 ≤ at' s i ∧ at' s i ≤ 57) ∨ at' s i = 95 ∨ at' s i = 45) := by omega
      have hb : nmB s = false := by
        unfold nmB
        rw [all_bad hil hc]
        rfl
      rw [hb]
      clear hcc ha
      repeat' (first
        | with_reducible refine t_seq ?_ | with_reducible refine t_region ?_ | with_reducible refine c_nil ?_ | with_reducible refine n_then ?_
        | with_reducible refine t_ret ?_ | with_reducible refine t_skip ?_ | with_reducible refine t_exit ?_ | with_reducible refine t_block ?_
        | with_reducible refine n_block ?_ | with_reducible refine e_then ?_ | with_reducible refine x_then ?_ | with_reducible refine x_block ?_ | with_reducible refine t_draw ?_
        | refine r_val rfl rfl True.intro ?_ | refine r_gskip rfl rfl rfl ?_ | refine r_gskip2 rfl rfl rfl ?_ | refine r_gval rfl rfl rfl rfl True.intro ?_
        | refine t_true rfl ?_ | refine t_false rfl ?_
        | ((first | refine t_cond_d rfl (fun _ => ?_) (fun _ => ?_) | refine t_cond_i rfl (fun _ => ?_) (fun _ => ?_) | refine t_cond_j rfl (fun _ => ?_) (fun _ => ?_) | refine t_cond_s rfl (fun _ => ?_) (fun _ => ?_) | refine t_cond_n rfl (fun _ => ?_) (fun _ => ?_) | refine t_cond rfl (fun _ => ?_) (fun _ => ?_) | refine c_split_d rfl rfl (fun _ => ?_) (fun _ => ?_) | refine c_split_i rfl rfl (fun _ => ?_) (fun _ => ?_) | refine c_split_j rfl rfl (fun _ => ?_) (fun _ => ?_) | refine c_split_s rfl rfl (fun _ => ?_) (fun _ => ?_) | refine c_split_n rfl rfl (fun _ => ?_) (fun _ => ?_)) <;> try (first | contradiction | (exfalso; omega)))
        | refine r_val rfl rfl (by (first | omega | exact Nat.le_of_ble_eq_true rfl | (simp_all; done) | (simp_all; omega) | ((repeat' refine And.intro ?_ ?_) <;> first | omega | rfl | exact Nat.le_refl _ | exact Nat.le_of_ble_eq_true rfl | exact bytesF_one _ | (simp_all; done) | (simp_all; omega)))) ?_ | refine r_gval rfl rfl rfl rfl (by (first | omega | exact Nat.le_of_ble_eq_true rfl | (simp_all; done) | (simp_all; omega) | ((repeat' refine And.intro ?_ ?_) <;> first | omega | rfl | exact Nat.le_refl _ | exact Nat.le_of_ble_eq_true rfl | exact bytesF_one _ | (simp_all; done) | (simp_all; omega)))) ?_
        | refine r_obj rfl rfl (by (first | omega | exact Nat.le_of_ble_eq_true rfl | (simp_all; done) | (simp_all; omega) | ((repeat' refine And.intro ?_ ?_) <;> first | omega | rfl | exact Nat.le_refl _ | exact Nat.le_of_ble_eq_true rfl | exact bytesF_one _ | (simp_all; done) | (simp_all; omega)))) ?_ | refine r_sto rfl (by (first | omega | exact Nat.le_of_ble_eq_true rfl | (simp_all; done) | (simp_all; omega) | ((repeat' refine And.intro ?_ ?_) <;> first | omega | rfl | exact Nat.le_refl _ | exact Nat.le_of_ble_eq_true rfl | exact bytesF_one _ | (simp_all; done) | (simp_all; omega)))) ?_ | refine r_gobj rfl rfl rfl rfl (by (first | omega | exact Nat.le_of_ble_eq_true rfl | (simp_all; done) | (simp_all; omega) | ((repeat' refine And.intro ?_ ?_) <;> first | omega | rfl | exact Nat.le_refl _ | exact Nat.le_of_ble_eq_true rfl | exact bytesF_one _ | (simp_all; done) | (simp_all; omega)))) ?_
        | refine e_hit rfl ?_ | refine e_miss rfl ?_
        | refine ⟨by kernel_rfl, ?_⟩ | refine x_end rfl ?_ | refine n_end rfl ?_ | ((with_reducible refine c_grd ?_); (fail_if_success (refine c_lit true rfl rfl rfl ?_)); (fail_if_success (refine c_lit false rfl rfl rfl ?_)); refine c_split rfl rfl (fun _ => ?_) (fun _ => ?_)))
      all_goals rfl
  · have : i = s.length := by omega
    subst this
    rw [List.take_length] at hall
    have hb : nmB s = decide (0 < s.length ∧ s.length ≤ 64) := by
      unfold nmB
      rw [hall]
      rfl
    rw [hb]
    repeat' (first
      | with_reducible refine t_seq ?_ | with_reducible refine t_region ?_ | with_reducible refine c_nil ?_ | with_reducible refine n_then ?_
      | with_reducible refine t_ret ?_ | with_reducible refine t_skip ?_ | with_reducible refine t_exit ?_ | with_reducible refine t_block ?_
      | with_reducible refine n_block ?_ | with_reducible refine e_then ?_ | with_reducible refine x_then ?_ | with_reducible refine x_block ?_ | with_reducible refine t_draw ?_
      | refine r_val rfl rfl True.intro ?_ | refine r_gskip rfl rfl rfl ?_ | refine r_gskip2 rfl rfl rfl ?_ | refine r_gval rfl rfl rfl rfl True.intro ?_
      | refine t_true rfl ?_ | refine t_false rfl ?_
      | ((first | refine t_cond_d rfl (fun _ => ?_) (fun _ => ?_) | refine t_cond_i rfl (fun _ => ?_) (fun _ => ?_) | refine t_cond_j rfl (fun _ => ?_) (fun _ => ?_) | refine t_cond_s rfl (fun _ => ?_) (fun _ => ?_) | refine t_cond_n rfl (fun _ => ?_) (fun _ => ?_) | refine t_cond rfl (fun _ => ?_) (fun _ => ?_) | refine c_split_d rfl rfl (fun _ => ?_) (fun _ => ?_) | refine c_split_i rfl rfl (fun _ => ?_) (fun _ => ?_) | refine c_split_j rfl rfl (fun _ => ?_) (fun _ => ?_) | refine c_split_s rfl rfl (fun _ => ?_) (fun _ => ?_) | refine c_split_n rfl rfl (fun _ => ?_) (fun _ => ?_)) <;> try (first | contradiction | (exfalso; omega)))
      | refine r_val rfl rfl (by (first | omega | exact Nat.le_of_ble_eq_true rfl | (simp_all; done) | (simp_all; omega) | ((repeat' refine And.intro ?_ ?_) <;> first | omega | rfl | exact Nat.le_refl _ | exact Nat.le_of_ble_eq_true rfl | exact bytesF_one _ | (simp_all; done) | (simp_all; omega)))) ?_ | refine r_gval rfl rfl rfl rfl (by (first | omega | exact Nat.le_of_ble_eq_true rfl | (simp_all; done) | (simp_all; omega) | ((repeat' refine And.intro ?_ ?_) <;> first | omega | rfl | exact Nat.le_refl _ | exact Nat.le_of_ble_eq_true rfl | exact bytesF_one _ | (simp_all; done) | (simp_all; omega)))) ?_
      | refine r_obj rfl rfl (by (first | omega | exact Nat.le_of_ble_eq_true rfl | (simp_all; done) | (simp_all; omega) | ((repeat' refine And.intro ?_ ?_) <;> first | omega | rfl | exact Nat.le_refl _ | exact Nat.le_of_ble_eq_true rfl | exact bytesF_one _ | (simp_all; done) | (simp_all; omega)))) ?_ | refine r_sto rfl (by (first | omega | exact Nat.le_of_ble_eq_true rfl | (simp_all; done) | (simp_all; omega) | ((repeat' refine And.intro ?_ ?_) <;> first | omega | rfl | exact Nat.le_refl _ | exact Nat.le_of_ble_eq_true rfl | exact bytesF_one _ | (simp_all; done) | (simp_all; omega)))) ?_ | refine r_gobj rfl rfl rfl rfl (by (first | omega | exact Nat.le_of_ble_eq_true rfl | (simp_all; done) | (simp_all; omega) | ((repeat' refine And.intro ?_ ?_) <;> first | omega | rfl | exact Nat.le_refl _ | exact Nat.le_of_ble_eq_true rfl | exact bytesF_one _ | (simp_all; done) | (simp_all; omega)))) ?_
      | refine e_hit rfl ?_ | refine e_miss rfl ?_
      | refine ⟨by kernel_rfl, ?_⟩ | refine x_end rfl ?_ | refine n_end rfl ?_ | ((with_reducible refine c_grd ?_); (fail_if_success (refine c_lit true rfl rfl rfl ?_)); (fail_if_success (refine c_lit false rfl rfl rfl ?_)); refine c_split rfl rfl (fun _ => ?_) (fun _ => ?_)))
    all_goals
      refine congrArg D.b ?_
      rw [Bool.eq_iff_iff]
      simp only [decide_eq_true_eq, Bool.false_eq_true, true_iff, false_iff]
      omega

/-! ### Numbers -/
def dgC (c : UInt8) : Bool := decide (48 ≤ c.toNat) && decide (c.toNat ≤ 57)
def nuV (s : List UInt8) : Int := s.foldl (fun n c => 10 * n + c.toNat - 48) 0
def nuB (s : List UInt8) : Bool := decide (0 < s.length ∧ s.length ≤ 10 ∧ (1 < s.length → ¬ s.getD 0 0 = 48)) && s.all dgC
def nuR (s : List UInt8) : List D := if nuB s = true then [.i .i64 (nuV s), .b true] else [.i .i64 0, .b false]

theorem dgC_t {c : UInt8} : dgC c = true ↔ 48 ≤ c.toNat ∧ c.toNat ≤ 57 := by
  simp only [dgC, Bool.and_eq_true, decide_eq_true_eq]
theorem dgC_f {c : UInt8} : dgC c = false ↔ ¬ (48 ≤ c.toNat ∧ c.toNat ≤ 57) := by
  rw [← dgC_t, Bool.not_eq_true]
theorem nuV_take {s : List UInt8} {i : Nat} (h : i < s.length) : nuV (s.take (i + 1)) = 10 * nuV (s.take i) + (s.getD i 0).toNat - 48 := by
  unfold nuV
  have e : s.take (i + 1) = s.take i ++ [s.getD i 0] := by
    rw [List.take_add_one, List.getElem?_eq_getElem h]
    simp [List.getD_eq_getElem?_getD, h]
  rw [e, List.foldl_append]
  rfl
theorem nuV_bound {s : List UInt8} : ∀ i, i ≤ s.length → (s.take i).all dgC = true → 0 ≤ nuV (s.take i) ∧ nuV (s.take i) < 10 ^ i := by
  intro i
  induction i with
  | zero => intro _ _; exact ⟨Int.le_refl _, (by decide : (0 : Int) < 10 ^ 0)⟩
  | succ i ih =>
    intro hi ha
    rw [all_take hi, Bool.and_eq_true] at ha
    have h1 := ih (by omega) ha.1
    have h2 := dgC_t.1 ha.2
    rw [nuV_take hi, Int.pow_succ]
    omega
theorem nuR_no {s : List UInt8} (h : nuB s = false) : nuR s = [.i .i64 0, .b false] := by
  unfold nuR
  rw [h]
  rfl
theorem nuB_no1 {s : List UInt8} (h : ¬ (0 < s.length ∧ s.length ≤ 10 ∧ (1 < s.length → ¬ s.getD 0 0 = 48))) : nuB s = false := by
  unfold nuB
  rw [decide_eq_false h]
  rfl

theorem byte48 (c : UInt8) : c = 48 ↔ (c.toNat : Int) = 48 := by
  constructor
  · rintro rfl
    rfl
  · intro h
    exact UInt8.toNat.inj (by show c.toNat = 48; omega)

set_option maxRecDepth 100000 in
set_option maxHeartbeats 1000000 in
theorem num35_ctr (s : List UInt8) (hs : s.length ≤ 4194304) : Ctr Tryd.prog 27 [.s s] (.tu (nuR s)) := by
  have h0 : at' s 0 = ((s.getD 0 0).toNat : Int) := at_nat s 0
  have hnil : (s == []) = decide (s.length = 0) := by cases s <;> rfl
  refine r_fun Tryd.func27 rfl Tryd.ntmps27 Tryd.results27 rfl (by unfold nuR; split <;> rfl) fun X hL hX => ?_
  by_cases hf : 0 < s.length ∧ s.length ≤ 10 ∧ (1 < s.length → ¬ s.getD 0 0 = 48)
  · obtain ⟨h1, h2, h3⟩ := hf
    have hx : 1 < s.length → ¬ at' s 0 = 48 := fun h => by rw [h0]; exact fun e => h3 h ((byte48 _).2 e)
    repeat' (first
      | with_reducible refine t_seq ?_ | with_reducible refine t_region ?_ | with_reducible refine c_nil ?_ | with_reducible refine n_then ?_
      | with_reducible refine t_ret ?_ | with_reducible refine t_skip ?_ | with_reducible refine t_exit ?_ | with_reducible refine t_block ?_
      | with_reducible refine n_block ?_ | with_reducible refine e_then ?_ | with_reducible refine x_then ?_ | with_reducible refine x_block ?_ | with_reducible refine t_draw ?_
      | refine r_val rfl rfl True.intro ?_ | refine r_gskip rfl rfl rfl ?_ | refine r_gskip2 rfl rfl rfl ?_ | refine r_gval rfl rfl rfl rfl True.intro ?_
      | refine t_true rfl ?_ | refine t_false rfl ?_
      | ((first | refine t_cond_d rfl (fun _ => ?_) (fun _ => ?_) | refine t_cond_i rfl (fun _ => ?_) (fun _ => ?_) | refine t_cond_j rfl (fun _ => ?_) (fun _ => ?_) | refine t_cond_s rfl (fun _ => ?_) (fun _ => ?_) | refine t_cond_n rfl (fun _ => ?_) (fun _ => ?_) | refine t_cond rfl (fun _ => ?_) (fun _ => ?_) | refine c_split_d rfl rfl (fun _ => ?_) (fun _ => ?_) | refine c_split_i rfl rfl (fun _ => ?_) (fun _ => ?_) | refine c_split_j rfl rfl (fun _ => ?_) (fun _ => ?_) | refine c_split_s rfl rfl (fun _ => ?_) (fun _ => ?_) | refine c_split_n rfl rfl (fun _ => ?_) (fun _ => ?_)) <;> try (first | contradiction | (exfalso; omega)))
      | refine r_val rfl rfl (by (first | omega | exact Nat.le_of_ble_eq_true rfl | (simp_all; done) | (simp_all; omega) | ((repeat' refine And.intro ?_ ?_) <;> first | omega | rfl | exact Nat.le_refl _ | exact Nat.le_of_ble_eq_true rfl | exact bytesF_one _ | (simp_all; done) | (simp_all; omega)))) ?_ | refine r_gval rfl rfl rfl rfl (by (first | omega | exact Nat.le_of_ble_eq_true rfl | (simp_all; done) | (simp_all; omega) | ((repeat' refine And.intro ?_ ?_) <;> first | omega | rfl | exact Nat.le_refl _ | exact Nat.le_of_ble_eq_true rfl | exact bytesF_one _ | (simp_all; done) | (simp_all; omega)))) ?_
      | refine r_obj rfl rfl (by (first | omega | exact Nat.le_of_ble_eq_true rfl | (simp_all; done) | (simp_all; omega) | ((repeat' refine And.intro ?_ ?_) <;> first | omega | rfl | exact Nat.le_refl _ | exact Nat.le_of_ble_eq_true rfl | exact bytesF_one _ | (simp_all; done) | (simp_all; omega)))) ?_ | refine r_sto rfl (by (first | omega | exact Nat.le_of_ble_eq_true rfl | (simp_all; done) | (simp_all; omega) | ((repeat' refine And.intro ?_ ?_) <;> first | omega | rfl | exact Nat.le_refl _ | exact Nat.le_of_ble_eq_true rfl | exact bytesF_one _ | (simp_all; done) | (simp_all; omega)))) ?_ | refine r_gobj rfl rfl rfl rfl (by (first | omega | exact Nat.le_of_ble_eq_true rfl | (simp_all; done) | (simp_all; omega) | ((repeat' refine And.intro ?_ ?_) <;> first | omega | rfl | exact Nat.le_refl _ | exact Nat.le_of_ble_eq_true rfl | exact bytesF_one _ | (simp_all; done) | (simp_all; omega)))) ?_
      | refine e_hit rfl ?_ | refine e_miss rfl ?_
      | refine ⟨by kernel_rfl, ?_⟩ | refine x_end rfl ?_ | refine n_end rfl ?_ | ((with_reducible refine c_grd ?_); (fail_if_success (refine c_lit true rfl rfl rfl ?_)); (fail_if_success (refine c_lit false rfl rfl rfl ?_)); refine c_split rfl rfl (fun _ => ?_) (fun _ => ?_)))
    all_goals first | (exfalso; rename_i hz; rw [show s = [] from hz] at h1; exact absurd h1 (by decide)) | skip
    all_goals
      refine T.loop hL (fun i : Nat => [(0, .s s), (4, .i .i64 (nuV (s.take i))), (24, .i .i64 s.length), (25, .i .i64 i)]) (fun _ => []) (fun i => i ≤ s.length ∧ (s.take i).all dgC = true) (fun i => s.length - i) 0 ⟨Nat.zero_le _, by simp⟩
        ⟨⟨rfl, rfl, rfl, rfl, trivial⟩, trivial, rfl, fun q hq => by rw [hX] at hq; simp at hq⟩ ?_
      rintro i ⟨hi, hall⟩
      by_cases hil : i < s.length
      · have hst := all_take (p := dgC) hil
        have ha := at_nat s i
        have hnv := nuV_take hil
        have hnb := nuV_bound i hi hall
        have hp : (10 : Int) ^ i ≤ 1000000000 := by
          have h7 : (10 : Nat) ^ i ≤ 1000000000 := Nat.le_trans (Nat.pow_le_pow_right (by decide) (show i ≤ 9 by omega)) (by decide)
          have h8 : ((10 ^ i : Nat) : Int) = (10 : Int) ^ i := Int.natCast_pow 10 i
          rw [← h8]
          exact Int.ofNat_le.2 h7
        cases hc : dgC (s.getD i 0) with
        | true =>
          have hcc := dgC_t.1 hc
          have hna : 48 ≤ at' s i ∧ at' s i ≤ 57 := by omega
          rw [← ha] at hnv
          clear hcc ha h0
          repeat' (first
            | with_reducible refine t_seq ?_ | with_reducible refine t_region ?_ | with_reducible refine c_nil ?_ | with_reducible refine n_then ?_
            | with_reducible refine t_ret ?_ | with_reducible refine t_skip ?_ | with_reducible refine t_exit ?_ | with_reducible refine t_block ?_
            | with_reducible refine n_block ?_ | with_reducible refine e_then ?_ | with_reducible refine x_then ?_ | with_reducible refine x_block ?_ | with_reducible refine t_draw ?_
            | refine r_val rfl rfl True.intro ?_ | refine r_gskip rfl rfl rfl ?_ | refine r_gskip2 rfl rfl rfl ?_ | refine r_gval rfl rfl rfl rfl True.intro ?_
            | refine t_true rfl ?_ | refine t_false rfl ?_
            | ((first | refine t_cond_d rfl (fun _ => ?_) (fun _ => ?_) | refine t_cond_i rfl (fun _ => ?_) (fun _ => ?_) | refine t_cond_j rfl (fun _ => ?_) (fun _ => ?_) | refine t_cond_s rfl (fun _ => ?_) (fun _ => ?_) | refine t_cond_n rfl (fun _ => ?_) (fun _ => ?_) | refine t_cond rfl (fun _ => ?_) (fun _ => ?_) | refine c_split_d rfl rfl (fun _ => ?_) (fun _ => ?_) | refine c_split_i rfl rfl (fun _ => ?_) (fun _ => ?_) | refine c_split_j rfl rfl (fun _ => ?_) (fun _ => ?_) | refine c_split_s rfl rfl (fun _ => ?_) (fun _ => ?_) | refine c_split_n rfl rfl (fun _ => ?_) (fun _ => ?_)) <;> try (first | (rename_i hz; exact Bool.noConfusion (show true = false from hz)) | (rename_i hz; exact Bool.noConfusion (show false = true from hz)) | (exfalso; omega)))
            | refine r_val rfl rfl (by (first | omega | exact Nat.le_of_ble_eq_true rfl | (simp only [wrap_u8, IntKind.wrap_i64, IntKind.wrap_i32, wrap_u32', wrap_u64', InI]; (repeat' refine And.intro ?_ ?_) <;> omega) | ((repeat' refine And.intro ?_ ?_) <;> first | omega | rfl | exact Nat.le_refl _ | exact Nat.le_of_ble_eq_true rfl | exact bytesF_one _) | (simp_all; done) | (simp_all; omega))) ?_ | refine r_gval rfl rfl rfl rfl (by (first | omega | exact Nat.le_of_ble_eq_true rfl | (simp only [wrap_u8, IntKind.wrap_i64, IntKind.wrap_i32, wrap_u32', wrap_u64', InI]; (repeat' refine And.intro ?_ ?_) <;> omega) | ((repeat' refine And.intro ?_ ?_) <;> first | omega | rfl | exact Nat.le_refl _ | exact Nat.le_of_ble_eq_true rfl | exact bytesF_one _) | (simp_all; done) | (simp_all; omega))) ?_
            | refine r_obj rfl rfl (by (first | omega | exact Nat.le_of_ble_eq_true rfl | (simp only [wrap_u8, IntKind.wrap_i64, IntKind.wrap_i32, wrap_u32', wrap_u64', InI]; (repeat' refine And.intro ?_ ?_) <;> omega) | ((repeat' refine And.intro ?_ ?_) <;> first | omega | rfl | exact Nat.le_refl _ | exact Nat.le_of_ble_eq_true rfl | exact bytesF_one _) | (simp_all; done) | (simp_all; omega))) ?_ | refine r_sto rfl (by (first | omega | exact Nat.le_of_ble_eq_true rfl | (simp only [wrap_u8, IntKind.wrap_i64, IntKind.wrap_i32, wrap_u32', wrap_u64', InI]; (repeat' refine And.intro ?_ ?_) <;> omega) | ((repeat' refine And.intro ?_ ?_) <;> first | omega | rfl | exact Nat.le_refl _ | exact Nat.le_of_ble_eq_true rfl | exact bytesF_one _) | (simp_all; done) | (simp_all; omega))) ?_ | refine r_gobj rfl rfl rfl rfl (by (first | omega | exact Nat.le_of_ble_eq_true rfl | (simp only [wrap_u8, IntKind.wrap_i64, IntKind.wrap_i32, wrap_u32', wrap_u64', InI]; (repeat' refine And.intro ?_ ?_) <;> omega) | ((repeat' refine And.intro ?_ ?_) <;> first | omega | rfl | exact Nat.le_refl _ | exact Nat.le_of_ble_eq_true rfl | exact bytesF_one _) | (simp_all; done) | (simp_all; omega))) ?_
            | refine e_hit rfl ?_ | refine e_miss rfl ?_
            | refine ⟨by kernel_rfl, ?_⟩ | refine x_end rfl ?_ | refine n_end rfl ?_ | ((with_reducible refine c_grd ?_); (fail_if_success (refine c_lit true rfl rfl rfl ?_)); (fail_if_success (refine c_lit false rfl rfl rfl ?_)); refine c_split rfl rfl (fun _ => ?_) (fun _ => ?_)))
          all_goals exact ⟨i + 1, ⟨by omega, by rw [hst, hall, hc]; rfl⟩, by omega, ⟨rfl, congrArg (D.i .i64) (by rw [hnv]; try simp only [wrap_u8, IntKind.wrap_i64]; omega), rfl, congrArg (D.i .i64) (by omega), trivial⟩, trivial, rfl, fun q hq => by rw [hX] at hq; simp at hq⟩
        | false =>
          have hcc := dgC_f.1 hc
          have hna : ¬ (48 ≤ at' s i ∧ at' s i ≤ 57) := by omega
          rw [nuR_no (by unfold nuB; rw [all_bad hil hc, Bool.and_false])]
          clear hcc ha h0 hnv
          repeat' (first
            | with_reducible refine t_seq ?_ | with_reducible refine t_region ?_ | with_reducible refine c_nil ?_ | with_reducible refine n_then ?_
            | with_reducible refine t_ret ?_ | with_reducible refine t_skip ?_ | with_reducible refine t_exit ?_ | with_reducible refine t_block ?_
            | with_reducible refine n_block ?_ | with_reducible refine e_then ?_ | with_reducible refine x_then ?_ | with_reducible refine x_block ?_ | with_reducible refine t_draw ?_
            | refine r_val rfl rfl True.intro ?_ | refine r_gskip rfl rfl rfl ?_ | refine r_gskip2 rfl rfl rfl ?_ | refine r_gval rfl rfl rfl rfl True.intro ?_
            | refine t_true rfl ?_ | refine t_false rfl ?_
            | ((first | refine t_cond_d rfl (fun _ => ?_) (fun _ => ?_) | refine t_cond_i rfl (fun _ => ?_) (fun _ => ?_) | refine t_cond_j rfl (fun _ => ?_) (fun _ => ?_) | refine t_cond_s rfl (fun _ => ?_) (fun _ => ?_) | refine t_cond_n rfl (fun _ => ?_) (fun _ => ?_) | refine t_cond rfl (fun _ => ?_) (fun _ => ?_) | refine c_split_d rfl rfl (fun _ => ?_) (fun _ => ?_) | refine c_split_i rfl rfl (fun _ => ?_) (fun _ => ?_) | refine c_split_j rfl rfl (fun _ => ?_) (fun _ => ?_) | refine c_split_s rfl rfl (fun _ => ?_) (fun _ => ?_) | refine c_split_n rfl rfl (fun _ => ?_) (fun _ => ?_)) <;> try (first | (rename_i hz; exact Bool.noConfusion (show true = false from hz)) | (rename_i hz; exact Bool.noConfusion (show false = true from hz)) | (exfalso; omega)))
            | refine r_val rfl rfl (by (first | omega | exact Nat.le_of_ble_eq_true rfl | (simp only [wrap_u8, IntKind.wrap_i64, IntKind.wrap_i32, wrap_u32', wrap_u64', InI]; (repeat' refine And.intro ?_ ?_) <;> omega) | ((repeat' refine And.intro ?_ ?_) <;> first | omega | rfl | exact Nat.le_refl _ | exact Nat.le_of_ble_eq_true rfl | exact bytesF_one _) | (simp_all; done) | (simp_all; omega))) ?_ | refine r_gval rfl rfl rfl rfl (by (first | omega | exact Nat.le_of_ble_eq_true rfl | (simp only [wrap_u8, IntKind.wrap_i64, IntKind.wrap_i32, wrap_u32', wrap_u64', InI]; (repeat' refine And.intro ?_ ?_) <;> omega) | ((repeat' refine And.intro ?_ ?_) <;> first | omega | rfl | exact Nat.le_refl _ | exact Nat.le_of_ble_eq_true rfl | exact bytesF_one _) | (simp_all; done) | (simp_all; omega))) ?_
            | refine r_obj rfl rfl (by (first | omega | exact Nat.le_of_ble_eq_true rfl | (simp only [wrap_u8, IntKind.wrap_i64, IntKind.wrap_i32, wrap_u32', wrap_u64', InI]; (repeat' refine And.intro ?_ ?_) <;> omega) | ((repeat' refine And.intro ?_ ?_) <;> first | omega | rfl | exact Nat.le_refl _ | exact Nat.le_of_ble_eq_true rfl | exact bytesF_one _) | (simp_all; done) | (simp_all; omega))) ?_ | refine r_sto rfl (by (first | omega | exact Nat.le_of_ble_eq_true rfl | (simp only [wrap_u8, IntKind.wrap_i64, IntKind.wrap_i32, wrap_u32', wrap_u64', InI]; (repeat' refine And.intro ?_ ?_) <;> omega) | ((repeat' refine And.intro ?_ ?_) <;> first | omega | rfl | exact Nat.le_refl _ | exact Nat.le_of_ble_eq_true rfl | exact bytesF_one _) | (simp_all; done) | (simp_all; omega))) ?_ | refine r_gobj rfl rfl rfl rfl (by (first | omega | exact Nat.le_of_ble_eq_true rfl | (simp only [wrap_u8, IntKind.wrap_i64, IntKind.wrap_i32, wrap_u32', wrap_u64', InI]; (repeat' refine And.intro ?_ ?_) <;> omega) | ((repeat' refine And.intro ?_ ?_) <;> first | omega | rfl | exact Nat.le_refl _ | exact Nat.le_of_ble_eq_true rfl | exact bytesF_one _) | (simp_all; done) | (simp_all; omega))) ?_
            | refine e_hit rfl ?_ | refine e_miss rfl ?_
            | refine ⟨by kernel_rfl, ?_⟩ | refine x_end rfl ?_ | refine n_end rfl ?_ | ((with_reducible refine c_grd ?_); (fail_if_success (refine c_lit true rfl rfl rfl ?_)); (fail_if_success (refine c_lit false rfl rfl rfl ?_)); refine c_split rfl rfl (fun _ => ?_) (fun _ => ?_)))
          all_goals rfl
      · have : i = s.length := by omega
        subst this
        rw [List.take_length] at hall
        have hb : nuR s = [.i .i64 (nuV s), .b true] := if_pos (by unfold nuB; rw [hall, decide_eq_true ⟨h1, h2, h3⟩]; rfl)
        rw [hb]
        repeat' (first
          | with_reducible refine t_seq ?_ | with_reducible refine t_region ?_ | with_reducible refine c_nil ?_ | with_reducible refine n_then ?_
          | with_reducible refine t_ret ?_ | with_reducible refine t_skip ?_ | with_reducible refine t_exit ?_ | with_reducible refine t_block ?_
          | with_reducible refine n_block ?_ | with_reducible refine e_then ?_ | with_reducible refine x_then ?_ | with_reducible refine x_block ?_ | with_reducible refine t_draw ?_
          | refine r_val rfl rfl True.intro ?_ | refine r_gskip rfl rfl rfl ?_ | refine r_gskip2 rfl rfl rfl ?_ | refine r_gval rfl rfl rfl rfl True.intro ?_
          | refine t_true rfl ?_ | refine t_false rfl ?_
          | ((first | refine t_cond_d rfl (fun _ => ?_) (fun _ => ?_) | refine t_cond_i rfl (fun _ => ?_) (fun _ => ?_) | refine t_cond_j rfl (fun _ => ?_) (fun _ => ?_) | refine t_cond_s rfl (fun _ => ?_) (fun _ => ?_) | refine t_cond_n rfl (fun _ => ?_) (fun _ => ?_) | refine t_cond rfl (fun _ => ?_) (fun _ => ?_) | refine c_split_d rfl rfl (fun _ => ?_) (fun _ => ?_) | refine c_split_i rfl rfl (fun _ => ?_) (fun _ => ?_) | refine c_split_j rfl rfl (fun _ => ?_) (fun _ => ?_) | refine c_split_s rfl rfl (fun _ => ?_) (fun _ => ?_) | refine c_split_n rfl rfl (fun _ => ?_) (fun _ => ?_)) <;> try (first | contradiction | (exfalso; omega)))
          | refine r_val rfl rfl (by (first | omega | exact Nat.le_of_ble_eq_true rfl | (simp_all; done) | (simp_all; omega) | ((repeat' refine And.intro ?_ ?_) <;> first | omega | rfl | exact Nat.le_refl _ | exact Nat.le_of_ble_eq_true rfl | exact bytesF_one _ | (simp_all; done) | (simp_all; omega)))) ?_ | refine r_gval rfl rfl rfl rfl (by (first | omega | exact Nat.le_of_ble_eq_true rfl | (simp_all; done) | (simp_all; omega) | ((repeat' refine And.intro ?_ ?_) <;> first | omega | rfl | exact Nat.le_refl _ | exact Nat.le_of_ble_eq_true rfl | exact bytesF_one _ | (simp_all; done) | (simp_all; omega)))) ?_
          | refine r_obj rfl rfl (by (first | omega | exact Nat.le_of_ble_eq_true rfl | (simp_all; done) | (simp_all; omega) | ((repeat' refine And.intro ?_ ?_) <;> first | omega | rfl | exact Nat.le_refl _ | exact Nat.le_of_ble_eq_true rfl | exact bytesF_one _ | (simp_all; done) | (simp_all; omega)))) ?_ | refine r_sto rfl (by (first | omega | exact Nat.le_of_ble_eq_true rfl | (simp_all; done) | (simp_all; omega) | ((repeat' refine And.intro ?_ ?_) <;> first | omega | rfl | exact Nat.le_refl _ | exact Nat.le_of_ble_eq_true rfl | exact bytesF_one _ | (simp_all; done) | (simp_all; omega)))) ?_ | refine r_gobj rfl rfl rfl rfl (by (first | omega | exact Nat.le_of_ble_eq_true rfl | (simp_all; done) | (simp_all; omega) | ((repeat' refine And.intro ?_ ?_) <;> first | omega | rfl | exact Nat.le_refl _ | exact Nat.le_of_ble_eq_true rfl | exact bytesF_one _ | (simp_all; done) | (simp_all; omega)))) ?_
          | refine e_hit rfl ?_ | refine e_miss rfl ?_
          | refine ⟨by kernel_rfl, ?_⟩ | refine x_end rfl ?_ | refine n_end rfl ?_ | ((with_reducible refine c_grd ?_); (fail_if_success (refine c_lit true rfl rfl rfl ?_)); (fail_if_success (refine c_lit false rfl rfl rfl ?_)); refine c_split rfl rfl (fun _ => ?_) (fun _ => ?_)))
        all_goals rw [List.take_length]
  · rw [nuR_no (nuB_no1 hf)]
    have hx : s.length = 0 ∨ 10 < s.length ∨ (1 < s.length ∧ at' s 0 = 48) := by
      by_cases a1 : s.length = 0
      · exact .inl a1
      by_cases a2 : 10 < s.length
      · exact .inr (.inl a2)
      have a3 := Classical.not_imp.1 fun q => hf ⟨by omega, by omega, q⟩
      exact .inr (.inr ⟨a3.1, by rw [h0]; exact (byte48 _).1 (Classical.not_not.1 a3.2)⟩)
    clear hf h0
    repeat' (first
      | with_reducible refine t_seq ?_ | with_reducible refine t_region ?_ | with_reducible refine c_nil ?_ | with_reducible refine n_then ?_
      | with_reducible refine t_ret ?_ | with_reducible refine t_skip ?_ | with_reducible refine t_exit ?_ | with_reducible refine t_block ?_
      | with_reducible refine n_block ?_ | with_reducible refine e_then ?_ | with_reducible refine x_then ?_ | with_reducible refine x_block ?_ | with_reducible refine t_draw ?_
      | refine r_val rfl rfl True.intro ?_ | refine r_gskip rfl rfl rfl ?_ | refine r_gskip2 rfl rfl rfl ?_ | refine r_gval rfl rfl rfl rfl True.intro ?_
      | refine t_true rfl ?_ | refine t_false rfl ?_
      | ((first | refine t_cond_d rfl (fun _ => ?_) (fun _ => ?_) | refine t_cond_i rfl (fun _ => ?_) (fun _ => ?_) | refine t_cond_j rfl (fun _ => ?_) (fun _ => ?_) | refine t_cond_s rfl (fun _ => ?_) (fun _ => ?_) | refine t_cond_n rfl (fun _ => ?_) (fun _ => ?_) | refine t_cond rfl (fun _ => ?_) (fun _ => ?_) | refine c_split_d rfl rfl (fun _ => ?_) (fun _ => ?_) | refine c_split_i rfl rfl (fun _ => ?_) (fun _ => ?_) | refine c_split_j rfl rfl (fun _ => ?_) (fun _ => ?_) | refine c_split_s rfl rfl (fun _ => ?_) (fun _ => ?_) | refine c_split_n rfl rfl (fun _ => ?_) (fun _ => ?_)) <;> try (first | contradiction | (exfalso; omega)))
      | refine r_val rfl rfl (by (first | omega | exact Nat.le_of_ble_eq_true rfl | (simp_all; done) | (simp_all; omega) | ((repeat' refine And.intro ?_ ?_) <;> first | omega | rfl | exact Nat.le_refl _ | exact Nat.le_of_ble_eq_true rfl | exact bytesF_one _ | (simp_all; done) | (simp_all; omega)))) ?_ | refine r_gval rfl rfl rfl rfl (by (first | omega | exact Nat.le_of_ble_eq_true rfl | (simp_all; done) | (simp_all; omega) | ((repeat' refine And.intro ?_ ?_) <;> first | omega | rfl | exact Nat.le_refl _ | exact Nat.le_of_ble_eq_true rfl | exact bytesF_one _ | (simp_all; done) | (simp_all; omega)))) ?_
      | refine r_obj rfl rfl (by (first | omega | exact Nat.le_of_ble_eq_true rfl | (simp_all; done) | (simp_all; omega) | ((repeat' refine And.intro ?_ ?_) <;> first | omega | rfl | exact Nat.le_refl _ | exact Nat.le_of_ble_eq_true rfl | exact bytesF_one _ | (simp_all; done) | (simp_all; omega)))) ?_ | refine r_sto rfl (by (first | omega | exact Nat.le_of_ble_eq_true rfl | (simp_all; done) | (simp_all; omega) | ((repeat' refine And.intro ?_ ?_) <;> first | omega | rfl | exact Nat.le_refl _ | exact Nat.le_of_ble_eq_true rfl | exact bytesF_one _ | (simp_all; done) | (simp_all; omega)))) ?_ | refine r_gobj rfl rfl rfl rfl (by (first | omega | exact Nat.le_of_ble_eq_true rfl | (simp_all; done) | (simp_all; omega) | ((repeat' refine And.intro ?_ ?_) <;> first | omega | rfl | exact Nat.le_refl _ | exact Nat.le_of_ble_eq_true rfl | exact bytesF_one _ | (simp_all; done) | (simp_all; omega)))) ?_
      | refine e_hit rfl ?_ | refine e_miss rfl ?_
      | refine ⟨by kernel_rfl, ?_⟩ | refine x_end rfl ?_ | refine n_end rfl ?_ | ((with_reducible refine c_grd ?_); (fail_if_success (refine c_lit true rfl rfl rfl ?_)); (fail_if_success (refine c_lit false rfl rfl rfl ?_)); refine c_split rfl rfl (fun _ => ?_) (fun _ => ?_)))
    all_goals first | rfl | skip
    all_goals (exfalso; rename_i k1 k2 k3; have : ¬ s.length = 0 := fun e => k1 (List.length_eq_zero_iff.1 e); omega)

end Go.Proofs.YtghdgjabpdfaoaaDoor.Flow

/- SERVE: the document's numbers, ends, and pieces. -/
namespace Go.Proofs.YtghdgjabpdfaoaaDoor.Flow
open Go

set_option maxRecDepth 100000 in
set_option maxHeartbeats 1000000 in
theorem rnum35_ctr (s : List UInt8) (hs : s.length ≤ 4194304) : Ctr Tryd.prog 31 [.s s] (.tu (nuR s)) := by
  have h0 : at' s 0 = ((s.getD 0 0).toNat : Int) := at_nat s 0
  refine r_fun Tryd.func31 rfl Tryd.ntmps31 Tryd.results31 rfl (by unfold nuR; split <;> rfl) fun X hL hX => ?_
  by_cases hf : 0 < s.length ∧ s.length ≤ 10 ∧ (1 < s.length → ¬ s.getD 0 0 = 48)
  · obtain ⟨h1, h2, h3⟩ := hf
    have hx : 1 < s.length → ¬ at' s 0 = 48 := fun h => by rw [h0]; exact fun e => h3 h ((byte48 _).2 e)
    repeat' (first
      | with_reducible refine t_seq ?_ | with_reducible refine t_region ?_ | with_reducible refine c_nil ?_ | with_reducible refine n_then ?_
      | with_reducible refine t_ret ?_ | with_reducible refine t_skip ?_ | with_reducible refine t_exit ?_ | with_reducible refine t_block ?_
      | with_reducible refine n_block ?_ | with_reducible refine e_then ?_ | with_reducible refine x_then ?_ | with_reducible refine x_block ?_ | with_reducible refine t_draw ?_
      | refine r_val rfl rfl True.intro ?_ | refine r_gskip rfl rfl rfl ?_ | refine r_gskip2 rfl rfl rfl ?_ | refine r_gval rfl rfl rfl rfl True.intro ?_
      | refine t_true rfl ?_ | refine t_false rfl ?_
      | ((first | refine t_cond_d rfl (fun _ => ?_) (fun _ => ?_) | refine t_cond_i rfl (fun _ => ?_) (fun _ => ?_) | refine t_cond_j rfl (fun _ => ?_) (fun _ => ?_) | refine t_cond_s rfl (fun _ => ?_) (fun _ => ?_) | refine t_cond_n rfl (fun _ => ?_) (fun _ => ?_) | refine t_cond rfl (fun _ => ?_) (fun _ => ?_) | refine c_split_d rfl rfl (fun _ => ?_) (fun _ => ?_) | refine c_split_i rfl rfl (fun _ => ?_) (fun _ => ?_) | refine c_split_j rfl rfl (fun _ => ?_) (fun _ => ?_) | refine c_split_s rfl rfl (fun _ => ?_) (fun _ => ?_) | refine c_split_n rfl rfl (fun _ => ?_) (fun _ => ?_)) <;> try (first | contradiction | (exfalso; omega)))
      | refine r_val rfl rfl (by (first | omega | exact Nat.le_of_ble_eq_true rfl | (simp_all; done) | (simp_all; omega) | ((repeat' refine And.intro ?_ ?_) <;> first | omega | rfl | exact Nat.le_refl _ | exact Nat.le_of_ble_eq_true rfl | exact bytesF_one _ | (simp_all; done) | (simp_all; omega)))) ?_ | refine r_gval rfl rfl rfl rfl (by (first | omega | exact Nat.le_of_ble_eq_true rfl | (simp_all; done) | (simp_all; omega) | ((repeat' refine And.intro ?_ ?_) <;> first | omega | rfl | exact Nat.le_refl _ | exact Nat.le_of_ble_eq_true rfl | exact bytesF_one _ | (simp_all; done) | (simp_all; omega)))) ?_
      | refine r_obj rfl rfl (by (first | omega | exact Nat.le_of_ble_eq_true rfl | (simp_all; done) | (simp_all; omega) | ((repeat' refine And.intro ?_ ?_) <;> first | omega | rfl | exact Nat.le_refl _ | exact Nat.le_of_ble_eq_true rfl | exact bytesF_one _ | (simp_all; done) | (simp_all; omega)))) ?_ | refine r_sto rfl (by (first | omega | exact Nat.le_of_ble_eq_true rfl | (simp_all; done) | (simp_all; omega) | ((repeat' refine And.intro ?_ ?_) <;> first | omega | rfl | exact Nat.le_refl _ | exact Nat.le_of_ble_eq_true rfl | exact bytesF_one _ | (simp_all; done) | (simp_all; omega)))) ?_ | refine r_gobj rfl rfl rfl rfl (by (first | omega | exact Nat.le_of_ble_eq_true rfl | (simp_all; done) | (simp_all; omega) | ((repeat' refine And.intro ?_ ?_) <;> first | omega | rfl | exact Nat.le_refl _ | exact Nat.le_of_ble_eq_true rfl | exact bytesF_one _ | (simp_all; done) | (simp_all; omega)))) ?_
      | refine e_hit rfl ?_ | refine e_miss rfl ?_
      | refine ⟨by kernel_rfl, ?_⟩ | refine x_end rfl ?_ | refine n_end rfl ?_ | ((with_reducible refine c_grd ?_); (fail_if_success (refine c_lit true rfl rfl rfl ?_)); (fail_if_success (refine c_lit false rfl rfl rfl ?_)); refine c_split rfl rfl (fun _ => ?_) (fun _ => ?_)))
    all_goals
      refine T.loop hL (fun i : Nat => [(0, .s s), (4, .i .i64 (nuV (s.take i))), (5, .i .i64 i)]) (fun _ => []) (fun i => i ≤ s.length ∧ (s.take i).all dgC = true) (fun i => s.length - i) 0 ⟨Nat.zero_le _, by simp⟩
        ⟨⟨rfl, rfl, rfl, trivial⟩, trivial, rfl, fun q hq => by rw [hX] at hq; simp at hq⟩ ?_
      rintro i ⟨hi, hall⟩
      by_cases hil : i < s.length
      · have hst := all_take (p := dgC) hil
        have ha := at_nat s i
        have hnv := nuV_take hil
        have hnb := nuV_bound i hi hall
        have hp : (10 : Int) ^ i ≤ 1000000000 := by
          have h7 : (10 : Nat) ^ i ≤ 1000000000 := Nat.le_trans (Nat.pow_le_pow_right (by decide) (show i ≤ 9 by omega)) (by decide)
          have h8 : ((10 ^ i : Nat) : Int) = (10 : Int) ^ i := Int.natCast_pow 10 i
          rw [← h8]
          exact Int.ofNat_le.2 h7
        cases hc : dgC (s.getD i 0) with
        | true =>
          have hcc := dgC_t.1 hc
          have hna : 48 ≤ at' s i ∧ at' s i ≤ 57 := by omega
          rw [← ha] at hnv
          clear hcc ha h0
          repeat' (first
            | with_reducible refine t_seq ?_ | with_reducible refine t_region ?_ | with_reducible refine c_nil ?_ | with_reducible refine n_then ?_
            | with_reducible refine t_ret ?_ | with_reducible refine t_skip ?_ | with_reducible refine t_exit ?_ | with_reducible refine t_block ?_
            | with_reducible refine n_block ?_ | with_reducible refine e_then ?_ | with_reducible refine x_then ?_ | with_reducible refine x_block ?_ | with_reducible refine t_draw ?_
            | refine r_val rfl rfl True.intro ?_ | refine r_gskip rfl rfl rfl ?_ | refine r_gskip2 rfl rfl rfl ?_ | refine r_gval rfl rfl rfl rfl True.intro ?_
            | refine t_true rfl ?_ | refine t_false rfl ?_
            | ((first | refine t_cond_d rfl (fun _ => ?_) (fun _ => ?_) | refine t_cond_i rfl (fun _ => ?_) (fun _ => ?_) | refine t_cond_j rfl (fun _ => ?_) (fun _ => ?_) | refine t_cond_s rfl (fun _ => ?_) (fun _ => ?_) | refine t_cond_n rfl (fun _ => ?_) (fun _ => ?_) | refine t_cond rfl (fun _ => ?_) (fun _ => ?_) | refine c_split_d rfl rfl (fun _ => ?_) (fun _ => ?_) | refine c_split_i rfl rfl (fun _ => ?_) (fun _ => ?_) | refine c_split_j rfl rfl (fun _ => ?_) (fun _ => ?_) | refine c_split_s rfl rfl (fun _ => ?_) (fun _ => ?_) | refine c_split_n rfl rfl (fun _ => ?_) (fun _ => ?_)) <;> try (first | (rename_i hz; exact Bool.noConfusion (show true = false from hz)) | (rename_i hz; exact Bool.noConfusion (show false = true from hz)) | (exfalso; omega)))
            | refine r_val rfl rfl (by (first | omega | exact Nat.le_of_ble_eq_true rfl | (simp only [wrap_u8, IntKind.wrap_i64, IntKind.wrap_i32, wrap_u32', wrap_u64', InI]; (repeat' refine And.intro ?_ ?_) <;> omega) | ((repeat' refine And.intro ?_ ?_) <;> first | omega | rfl | exact Nat.le_refl _ | exact Nat.le_of_ble_eq_true rfl | exact bytesF_one _) | (simp_all; done) | (simp_all; omega))) ?_ | refine r_gval rfl rfl rfl rfl (by (first | omega | exact Nat.le_of_ble_eq_true rfl | (simp only [wrap_u8, IntKind.wrap_i64, IntKind.wrap_i32, wrap_u32', wrap_u64', InI]; (repeat' refine And.intro ?_ ?_) <;> omega) | ((repeat' refine And.intro ?_ ?_) <;> first | omega | rfl | exact Nat.le_refl _ | exact Nat.le_of_ble_eq_true rfl | exact bytesF_one _) | (simp_all; done) | (simp_all; omega))) ?_
            | refine r_obj rfl rfl (by (first | omega | exact Nat.le_of_ble_eq_true rfl | (simp only [wrap_u8, IntKind.wrap_i64, IntKind.wrap_i32, wrap_u32', wrap_u64', InI]; (repeat' refine And.intro ?_ ?_) <;> omega) | ((repeat' refine And.intro ?_ ?_) <;> first | omega | rfl | exact Nat.le_refl _ | exact Nat.le_of_ble_eq_true rfl | exact bytesF_one _) | (simp_all; done) | (simp_all; omega))) ?_ | refine r_sto rfl (by (first | omega | exact Nat.le_of_ble_eq_true rfl | (simp only [wrap_u8, IntKind.wrap_i64, IntKind.wrap_i32, wrap_u32', wrap_u64', InI]; (repeat' refine And.intro ?_ ?_) <;> omega) | ((repeat' refine And.intro ?_ ?_) <;> first | omega | rfl | exact Nat.le_refl _ | exact Nat.le_of_ble_eq_true rfl | exact bytesF_one _) | (simp_all; done) | (simp_all; omega))) ?_ | refine r_gobj rfl rfl rfl rfl (by (first | omega | exact Nat.le_of_ble_eq_true rfl | (simp only [wrap_u8, IntKind.wrap_i64, IntKind.wrap_i32, wrap_u32', wrap_u64', InI]; (repeat' refine And.intro ?_ ?_) <;> omega) | ((repeat' refine And.intro ?_ ?_) <;> first | omega | rfl | exact Nat.le_refl _ | exact Nat.le_of_ble_eq_true rfl | exact bytesF_one _) | (simp_all; done) | (simp_all; omega))) ?_
            | refine e_hit rfl ?_ | refine e_miss rfl ?_
            | refine ⟨by kernel_rfl, ?_⟩ | refine x_end rfl ?_ | refine n_end rfl ?_ | ((with_reducible refine c_grd ?_); (fail_if_success (refine c_lit true rfl rfl rfl ?_)); (fail_if_success (refine c_lit false rfl rfl rfl ?_)); refine c_split rfl rfl (fun _ => ?_) (fun _ => ?_)))
          all_goals exact ⟨i + 1, ⟨by omega, by rw [hst, hall, hc]; rfl⟩, by omega, ⟨rfl, congrArg (D.i .i64) (by rw [hnv]; try simp only [wrap_u8, IntKind.wrap_i64]; omega), congrArg (D.i .i64) (by omega), trivial⟩, trivial, rfl, fun q hq => by rw [hX] at hq; simp at hq⟩
        | false =>
          have hcc := dgC_f.1 hc
          have hna : ¬ (48 ≤ at' s i ∧ at' s i ≤ 57) := by omega
          rw [nuR_no (by unfold nuB; rw [all_bad hil hc, Bool.and_false])]
          clear hcc ha h0 hnv
          repeat' (first
            | with_reducible refine t_seq ?_ | with_reducible refine t_region ?_ | with_reducible refine c_nil ?_ | with_reducible refine n_then ?_
            | with_reducible refine t_ret ?_ | with_reducible refine t_skip ?_ | with_reducible refine t_exit ?_ | with_reducible refine t_block ?_
            | with_reducible refine n_block ?_ | with_reducible refine e_then ?_ | with_reducible refine x_then ?_ | with_reducible refine x_block ?_ | with_reducible refine t_draw ?_
            | refine r_val rfl rfl True.intro ?_ | refine r_gskip rfl rfl rfl ?_ | refine r_gskip2 rfl rfl rfl ?_ | refine r_gval rfl rfl rfl rfl True.intro ?_
            | refine t_true rfl ?_ | refine t_false rfl ?_
            | ((first | refine t_cond_d rfl (fun _ => ?_) (fun _ => ?_) | refine t_cond_i rfl (fun _ => ?_) (fun _ => ?_) | refine t_cond_j rfl (fun _ => ?_) (fun _ => ?_) | refine t_cond_s rfl (fun _ => ?_) (fun _ => ?_) | refine t_cond_n rfl (fun _ => ?_) (fun _ => ?_) | refine t_cond rfl (fun _ => ?_) (fun _ => ?_) | refine c_split_d rfl rfl (fun _ => ?_) (fun _ => ?_) | refine c_split_i rfl rfl (fun _ => ?_) (fun _ => ?_) | refine c_split_j rfl rfl (fun _ => ?_) (fun _ => ?_) | refine c_split_s rfl rfl (fun _ => ?_) (fun _ => ?_) | refine c_split_n rfl rfl (fun _ => ?_) (fun _ => ?_)) <;> try (first | (rename_i hz; exact Bool.noConfusion (show true = false from hz)) | (rename_i hz; exact Bool.noConfusion (show false = true from hz)) | (exfalso; omega)))
            | refine r_val rfl rfl (by (first | omega | exact Nat.le_of_ble_eq_true rfl | (simp only [wrap_u8, IntKind.wrap_i64, IntKind.wrap_i32, wrap_u32', wrap_u64', InI]; (repeat' refine And.intro ?_ ?_) <;> omega) | ((repeat' refine And.intro ?_ ?_) <;> first | omega | rfl | exact Nat.le_refl _ | exact Nat.le_of_ble_eq_true rfl | exact bytesF_one _) | (simp_all; done) | (simp_all; omega))) ?_ | refine r_gval rfl rfl rfl rfl (by (first | omega | exact Nat.le_of_ble_eq_true rfl | (simp only [wrap_u8, IntKind.wrap_i64, IntKind.wrap_i32, wrap_u32', wrap_u64', InI]; (repeat' refine And.intro ?_ ?_) <;> omega) | ((repeat' refine And.intro ?_ ?_) <;> first | omega | rfl | exact Nat.le_refl _ | exact Nat.le_of_ble_eq_true rfl | exact bytesF_one _) | (simp_all; done) | (simp_all; omega))) ?_
            | refine r_obj rfl rfl (by (first | omega | exact Nat.le_of_ble_eq_true rfl | (simp only [wrap_u8, IntKind.wrap_i64, IntKind.wrap_i32, wrap_u32', wrap_u64', InI]; (repeat' refine And.intro ?_ ?_) <;> omega) | ((repeat' refine And.intro ?_ ?_) <;> first | omega | rfl | exact Nat.le_refl _ | exact Nat.le_of_ble_eq_true rfl | exact bytesF_one _) | (simp_all; done) | (simp_all; omega))) ?_ | refine r_sto rfl (by (first | omega | exact Nat.le_of_ble_eq_true rfl | (simp only [wrap_u8, IntKind.wrap_i64, IntKind.wrap_i32, wrap_u32', wrap_u64', InI]; (repeat' refine And.intro ?_ ?_) <;> omega) | ((repeat' refine And.intro ?_ ?_) <;> first | omega | rfl | exact Nat.le_refl _ | exact Nat.le_of_ble_eq_true rfl | exact bytesF_one _) | (simp_all; done) | (simp_all; omega))) ?_ | refine r_gobj rfl rfl rfl rfl (by (first | omega | exact Nat.le_of_ble_eq_true rfl | (simp only [wrap_u8, IntKind.wrap_i64, IntKind.wrap_i32, wrap_u32', wrap_u64', InI]; (repeat' refine And.intro ?_ ?_) <;> omega) | ((repeat' refine And.intro ?_ ?_) <;> first | omega | rfl | exact Nat.le_refl _ | exact Nat.le_of_ble_eq_true rfl | exact bytesF_one _) | (simp_all; done) | (simp_all; omega))) ?_
            | refine e_hit rfl ?_ | refine e_miss rfl ?_
            | refine ⟨by kernel_rfl, ?_⟩ | refine x_end rfl ?_ | refine n_end rfl ?_ | ((with_reducible refine c_grd ?_); (fail_if_success (refine c_lit true rfl rfl rfl ?_)); (fail_if_success (refine c_lit false rfl rfl rfl ?_)); refine c_split rfl rfl (fun _ => ?_) (fun _ => ?_)))
          all_goals rfl
      · have : i = s.length := by omega
        subst this
        rw [List.take_length] at hall
        have hb : nuR s = [.i .i64 (nuV s), .b true] := if_pos (by unfold nuB; rw [hall, decide_eq_true ⟨h1, h2, h3⟩]; rfl)
        rw [hb]
        repeat' (first
          | with_reducible refine t_seq ?_ | with_reducible refine t_region ?_ | with_reducible refine c_nil ?_ | with_reducible refine n_then ?_
          | with_reducible refine t_ret ?_ | with_reducible refine t_skip ?_ | with_reducible refine t_exit ?_ | with_reducible refine t_block ?_
          | with_reducible refine n_block ?_ | with_reducible refine e_then ?_ | with_reducible refine x_then ?_ | with_reducible refine x_block ?_ | with_reducible refine t_draw ?_
          | refine r_val rfl rfl True.intro ?_ | refine r_gskip rfl rfl rfl ?_ | refine r_gskip2 rfl rfl rfl ?_ | refine r_gval rfl rfl rfl rfl True.intro ?_
          | refine t_true rfl ?_ | refine t_false rfl ?_
          | ((first | refine t_cond_d rfl (fun _ => ?_) (fun _ => ?_) | refine t_cond_i rfl (fun _ => ?_) (fun _ => ?_) | refine t_cond_j rfl (fun _ => ?_) (fun _ => ?_) | refine t_cond_s rfl (fun _ => ?_) (fun _ => ?_) | refine t_cond_n rfl (fun _ => ?_) (fun _ => ?_) | refine t_cond rfl (fun _ => ?_) (fun _ => ?_) | refine c_split_d rfl rfl (fun _ => ?_) (fun _ => ?_) | refine c_split_i rfl rfl (fun _ => ?_) (fun _ => ?_) | refine c_split_j rfl rfl (fun _ => ?_) (fun _ => ?_) | refine c_split_s rfl rfl (fun _ => ?_) (fun _ => ?_) | refine c_split_n rfl rfl (fun _ => ?_) (fun _ => ?_)) <;> try (first | contradiction | (exfalso; omega)))
          | refine r_val rfl rfl (by (first | omega | exact Nat.le_of_ble_eq_true rfl | (simp_all; done) | (simp_all; omega) | ((repeat' refine And.intro ?_ ?_) <;> first | omega | rfl | exact Nat.le_refl _ | exact Nat.le_of_ble_eq_true rfl | exact bytesF_one _ | (simp_all; done) | (simp_all; omega)))) ?_ | refine r_gval rfl rfl rfl rfl (by (first | omega | exact Nat.le_of_ble_eq_true rfl | (simp_all; done) | (simp_all; omega) | ((repeat' refine And.intro ?_ ?_) <;> first | omega | rfl | exact Nat.le_refl _ | exact Nat.le_of_ble_eq_true rfl | exact bytesF_one _ | (simp_all; done) | (simp_all; omega)))) ?_
          | refine r_obj rfl rfl (by (first | omega | exact Nat.le_of_ble_eq_true rfl | (simp_all; done) | (simp_all; omega) | ((repeat' refine And.intro ?_ ?_) <;> first | omega | rfl | exact Nat.le_refl _ | exact Nat.le_of_ble_eq_true rfl | exact bytesF_one _ | (simp_all; done) | (simp_all; omega)))) ?_ | refine r_sto rfl (by (first | omega | exact Nat.le_of_ble_eq_true rfl | (simp_all; done) | (simp_all; omega) | ((repeat' refine And.intro ?_ ?_) <;> first | omega | rfl | exact Nat.le_refl _ | exact Nat.le_of_ble_eq_true rfl | exact bytesF_one _ | (simp_all; done) | (simp_all; omega)))) ?_ | refine r_gobj rfl rfl rfl rfl (by (first | omega | exact Nat.le_of_ble_eq_true rfl | (simp_all; done) | (simp_all; omega) | ((repeat' refine And.intro ?_ ?_) <;> first | omega | rfl | exact Nat.le_refl _ | exact Nat.le_of_ble_eq_true rfl | exact bytesF_one _ | (simp_all; done) | (simp_all; omega)))) ?_
          | refine e_hit rfl ?_ | refine e_miss rfl ?_
          | refine ⟨by kernel_rfl, ?_⟩ | refine x_end rfl ?_ | refine n_end rfl ?_ | ((with_reducible refine c_grd ?_); (fail_if_success (refine c_lit true rfl rfl rfl ?_)); (fail_if_success (refine c_lit false rfl rfl rfl ?_)); refine c_split rfl rfl (fun _ => ?_) (fun _ => ?_)))
        all_goals rw [List.take_length]
  · rw [nuR_no (nuB_no1 hf)]
    have hx : s.length = 0 ∨ 10 < s.length ∨ (1 < s.length ∧ at' s 0 = 48) := by
      by_cases a1 : s.length = 0
      · exact .inl a1
      by_cases a2 : 10 < s.length
      · exact .inr (.inl a2)
      have a3 := Classical.not_imp.1 fun q => hf ⟨by omega, by omega, q⟩
      exact .inr (.inr ⟨a3.1, by rw [h0]; exact (byte48 _).1 (Classical.not_not.1 a3.2)⟩)
    clear hf h0
    repeat' (first
      | with_reducible refine t_seq ?_ | with_reducible refine t_region ?_ | with_reducible refine c_nil ?_ | with_reducible refine n_then ?_
      | with_reducible refine t_ret ?_ | with_reducible refine t_skip ?_ | with_reducible refine t_exit ?_ | with_reducible refine t_block ?_
      | with_reducible refine n_block ?_ | with_reducible refine e_then ?_ | with_reducible refine x_then ?_ | with_reducible refine x_block ?_ | with_reducible refine t_draw ?_
      | refine r_val rfl rfl True.intro ?_ | refine r_gskip rfl rfl rfl ?_ | refine r_gskip2 rfl rfl rfl ?_ | refine r_gval rfl rfl rfl rfl True.intro ?_
      | refine t_true rfl ?_ | refine t_false rfl ?_
      | ((first | refine t_cond_d rfl (fun _ => ?_) (fun _ => ?_) | refine t_cond_i rfl (fun _ => ?_) (fun _ => ?_) | refine t_cond_j rfl (fun _ => ?_) (fun _ => ?_) | refine t_cond_s rfl (fun _ => ?_) (fun _ => ?_) | refine t_cond_n rfl (fun _ => ?_) (fun _ => ?_) | refine t_cond rfl (fun _ => ?_) (fun _ => ?_) | refine c_split_d rfl rfl (fun _ => ?_) (fun _ => ?_) | refine c_split_i rfl rfl (fun _ => ?_) (fun _ => ?_) | refine c_split_j rfl rfl (fun _ => ?_) (fun _ => ?_) | refine c_split_s rfl rfl (fun _ => ?_) (fun _ => ?_) | refine c_split_n rfl rfl (fun _ => ?_) (fun _ => ?_)) <;> try (first | contradiction | (exfalso; omega)))
      | refine r_val rfl rfl (by (first | omega | exact Nat.le_of_ble_eq_true rfl | (simp_all; done) | (simp_all; omega) | ((repeat' refine And.intro ?_ ?_) <;> first | omega | rfl | exact Nat.le_refl _ | exact Nat.le_of_ble_eq_true rfl | exact bytesF_one _ | (simp_all; done) | (simp_all; omega)))) ?_ | refine r_gval rfl rfl rfl rfl (by (first | omega | exact Nat.le_of_ble_eq_true rfl | (simp_all; done) | (simp_all; omega) | ((repeat' refine And.intro ?_ ?_) <;> first | omega | rfl | exact Nat.le_refl _ | exact Nat.le_of_ble_eq_true rfl | exact bytesF_one _ | (simp_all; done) | (simp_all; omega)))) ?_
      | refine r_obj rfl rfl (by (first | omega | exact Nat.le_of_ble_eq_true rfl | (simp_all; done) | (simp_all; omega) | ((repeat' refine And.intro ?_ ?_) <;> first | omega | rfl | exact Nat.le_refl _ | exact Nat.le_of_ble_eq_true rfl | exact bytesF_one _ | (simp_all; done) | (simp_all; omega)))) ?_ | refine r_sto rfl (by (first | omega | exact Nat.le_of_ble_eq_true rfl | (simp_all; done) | (simp_all; omega) | ((repeat' refine And.intro ?_ ?_) <;> first | omega | rfl | exact Nat.le_refl _ | exact Nat.le_of_ble_eq_true rfl | exact bytesF_one _ | (simp_all; done) | (simp_all; omega)))) ?_ | refine r_gobj rfl rfl rfl rfl (by (first | omega | exact Nat.le_of_ble_eq_true rfl | (simp_all; done) | (simp_all; omega) | ((repeat' refine And.intro ?_ ?_) <;> first | omega | rfl | exact Nat.le_refl _ | exact Nat.le_of_ble_eq_true rfl | exact bytesF_one _ | (simp_all; done) | (simp_all; omega)))) ?_
      | refine e_hit rfl ?_ | refine e_miss rfl ?_
      | refine ⟨by kernel_rfl, ?_⟩ | refine x_end rfl ?_ | refine n_end rfl ?_ | ((with_reducible refine c_grd ?_); (fail_if_success (refine c_lit true rfl rfl rfl ?_)); (fail_if_success (refine c_lit false rfl rfl rfl ?_)); refine c_split rfl rfl (fun _ => ?_) (fun _ => ?_)))
    all_goals first | rfl | skip

/-! ### Ends -/
theorem sfx_iff {s p : List UInt8} : Lib.hasSuffix s p = true ↔ p.length ≤ s.length ∧ s.drop (s.length - p.length) = p := by
  unfold Lib.hasSuffix
  rw [List.isSuffixOf_iff_suffix, List.suffix_iff_eq_drop]
  constructor
  · intro h
    refine ⟨?_, h.symm⟩
    have := congrArg List.length h
    rw [List.length_drop] at this
    omega
  · exact fun h => h.2.symm
def cutV (s p : List UInt8) : List UInt8 := if Lib.hasSuffix s p = true then s.take (s.length - p.length) else []

set_option maxRecDepth 100000 in
theorem rcut_ctr (s p : List UInt8) (hs : s.length ≤ 4194304) (hp : p.length ≤ 4194304) : Ctr Tryd.prog 29 [.s s, .s p] (.tu [.s (cutV s p), .b (Lib.hasSuffix s p)]) := by
  refine r_fun Tryd.func29 rfl Tryd.ntmps29 Tryd.results29 rfl rfl fun X hL hX => ?_
  cases h : Lib.hasSuffix s p with
  | true =>
    obtain ⟨h1, h2⟩ := sfx_iff.1 h
    have hc : cutV s p = s.take (s.length - p.length) := if_pos h
    rw [hc]
    have e : ((s.length : Int) - p.length).toNat = s.length - p.length := by omega
    repeat' (first
      | with_reducible refine t_seq ?_ | with_reducible refine t_region ?_ | with_reducible refine c_nil ?_ | with_reducible refine n_then ?_
      | with_reducible refine t_ret ?_ | with_reducible refine t_skip ?_ | with_reducible refine t_exit ?_ | with_reducible refine t_block ?_
      | with_reducible refine n_block ?_ | with_reducible refine e_then ?_ | with_reducible refine x_then ?_ | with_reducible refine x_block ?_ | with_reducible refine t_draw ?_
      | refine r_val rfl rfl True.intro ?_ | refine r_gskip rfl rfl rfl ?_ | refine r_gskip2 rfl rfl rfl ?_ | refine r_gval rfl rfl rfl rfl True.intro ?_
      | refine t_true rfl ?_ | refine t_false rfl ?_
      | ((first | refine t_cond_d rfl (fun _ => ?_) (fun _ => ?_) | refine t_cond_i rfl (fun _ => ?_) (fun _ => ?_) | refine t_cond_j rfl (fun _ => ?_) (fun _ => ?_) | refine t_cond_s rfl (fun _ => ?_) (fun _ => ?_) | refine t_cond_n rfl (fun _ => ?_) (fun _ => ?_) | refine t_cond rfl (fun _ => ?_) (fun _ => ?_) | refine c_split_d rfl rfl (fun _ => ?_) (fun _ => ?_) | refine c_split_i rfl rfl (fun _ => ?_) (fun _ => ?_) | refine c_split_j rfl rfl (fun _ => ?_) (fun _ => ?_) | refine c_split_s rfl rfl (fun _ => ?_) (fun _ => ?_) | refine c_split_n rfl rfl (fun _ => ?_) (fun _ => ?_)) <;> try (first | contradiction | (exfalso; omega)))
      | refine r_val rfl rfl (by (first | omega | exact Nat.le_of_ble_eq_true rfl | (simp_all; done) | (simp_all; omega) | ((repeat' refine And.intro ?_ ?_) <;> first | omega | rfl | exact Nat.le_refl _ | exact Nat.le_of_ble_eq_true rfl | exact bytesF_one _ | (simp_all; done) | (simp_all; omega)))) ?_ | refine r_gval rfl rfl rfl rfl (by (first | omega | exact Nat.le_of_ble_eq_true rfl | (simp_all; done) | (simp_all; omega) | ((repeat' refine And.intro ?_ ?_) <;> first | omega | rfl | exact Nat.le_refl _ | exact Nat.le_of_ble_eq_true rfl | exact bytesF_one _ | (simp_all; done) | (simp_all; omega)))) ?_
      | refine r_obj rfl rfl (by (first | omega | exact Nat.le_of_ble_eq_true rfl | (simp_all; done) | (simp_all; omega) | ((repeat' refine And.intro ?_ ?_) <;> first | omega | rfl | exact Nat.le_refl _ | exact Nat.le_of_ble_eq_true rfl | exact bytesF_one _ | (simp_all; done) | (simp_all; omega)))) ?_ | refine r_sto rfl (by (first | omega | exact Nat.le_of_ble_eq_true rfl | (simp_all; done) | (simp_all; omega) | ((repeat' refine And.intro ?_ ?_) <;> first | omega | rfl | exact Nat.le_refl _ | exact Nat.le_of_ble_eq_true rfl | exact bytesF_one _ | (simp_all; done) | (simp_all; omega)))) ?_ | refine r_gobj rfl rfl rfl rfl (by (first | omega | exact Nat.le_of_ble_eq_true rfl | (simp_all; done) | (simp_all; omega) | ((repeat' refine And.intro ?_ ?_) <;> first | omega | rfl | exact Nat.le_refl _ | exact Nat.le_of_ble_eq_true rfl | exact bytesF_one _ | (simp_all; done) | (simp_all; omega)))) ?_
      | refine e_hit rfl ?_ | refine e_miss rfl ?_
      | refine ⟨by kernel_rfl, ?_⟩ | refine x_end rfl ?_ | refine n_end rfl ?_ | ((with_reducible refine c_grd ?_); (fail_if_success (refine c_lit true rfl rfl rfl ?_)); (fail_if_success (refine c_lit false rfl rfl rfl ?_)); refine c_split rfl rfl (fun _ => ?_) (fun _ => ?_)))
    · rename_i k
      rw [e, Int.toNat_natCast, List.take_length, h2] at k
      simp at k
    · rw [e]
      rfl
  | false =>
    have hn : ¬ (p.length ≤ s.length ∧ s.drop (s.length - p.length) = p) := fun q => by
      rw [sfx_iff.2 q] at h
      cases h
    have hc : cutV s p = [] := if_neg (by rw [h]; exact Bool.false_ne_true)
    rw [hc]
    repeat' (first
      | with_reducible refine t_seq ?_ | with_reducible refine t_region ?_ | with_reducible refine c_nil ?_ | with_reducible refine n_then ?_
      | with_reducible refine t_ret ?_ | with_reducible refine t_skip ?_ | with_reducible refine t_exit ?_ | with_reducible refine t_block ?_
      | with_reducible refine n_block ?_ | with_reducible refine e_then ?_ | with_reducible refine x_then ?_ | with_reducible refine x_block ?_ | with_reducible refine t_draw ?_
      | refine r_val rfl rfl True.intro ?_ | refine r_gskip rfl rfl rfl ?_ | refine r_gskip2 rfl rfl rfl ?_ | refine r_gval rfl rfl rfl rfl True.intro ?_
      | refine t_true rfl ?_ | refine t_false rfl ?_
      | ((first | refine t_cond_d rfl (fun _ => ?_) (fun _ => ?_) | refine t_cond_i rfl (fun _ => ?_) (fun _ => ?_) | refine t_cond_j rfl (fun _ => ?_) (fun _ => ?_) | refine t_cond_s rfl (fun _ => ?_) (fun _ => ?_) | refine t_cond_n rfl (fun _ => ?_) (fun _ => ?_) | refine t_cond rfl (fun _ => ?_) (fun _ => ?_) | refine c_split_d rfl rfl (fun _ => ?_) (fun _ => ?_) | refine c_split_i rfl rfl (fun _ => ?_) (fun _ => ?_) | refine c_split_j rfl rfl (fun _ => ?_) (fun _ => ?_) | refine c_split_s rfl rfl (fun _ => ?_) (fun _ => ?_) | refine c_split_n rfl rfl (fun _ => ?_) (fun _ => ?_)) <;> try (first | contradiction | (exfalso; omega)))
      | refine r_val rfl rfl (by (first | omega | exact Nat.le_of_ble_eq_true rfl | (simp_all; done) | (simp_all; omega) | ((repeat' refine And.intro ?_ ?_) <;> first | omega | rfl | exact Nat.le_refl _ | exact Nat.le_of_ble_eq_true rfl | exact bytesF_one _ | (simp_all; done) | (simp_all; omega)))) ?_ | refine r_gval rfl rfl rfl rfl (by (first | omega | exact Nat.le_of_ble_eq_true rfl | (simp_all; done) | (simp_all; omega) | ((repeat' refine And.intro ?_ ?_) <;> first | omega | rfl | exact Nat.le_refl _ | exact Nat.le_of_ble_eq_true rfl | exact bytesF_one _ | (simp_all; done) | (simp_all; omega)))) ?_
      | refine r_obj rfl rfl (by (first | omega | exact Nat.le_of_ble_eq_true rfl | (simp_all; done) | (simp_all; omega) | ((repeat' refine And.intro ?_ ?_) <;> first | omega | rfl | exact Nat.le_refl _ | exact Nat.le_of_ble_eq_true rfl | exact bytesF_one _ | (simp_all; done) | (simp_all; omega)))) ?_ | refine r_sto rfl (by (first | omega | exact Nat.le_of_ble_eq_true rfl | (simp_all; done) | (simp_all; omega) | ((repeat' refine And.intro ?_ ?_) <;> first | omega | rfl | exact Nat.le_refl _ | exact Nat.le_of_ble_eq_true rfl | exact bytesF_one _ | (simp_all; done) | (simp_all; omega)))) ?_ | refine r_gobj rfl rfl rfl rfl (by (first | omega | exact Nat.le_of_ble_eq_true rfl | (simp_all; done) | (simp_all; omega) | ((repeat' refine And.intro ?_ ?_) <;> first | omega | rfl | exact Nat.le_refl _ | exact Nat.le_of_ble_eq_true rfl | exact bytesF_one _ | (simp_all; done) | (simp_all; omega)))) ?_
      | refine e_hit rfl ?_ | refine e_miss rfl ?_
      | refine ⟨by kernel_rfl, ?_⟩ | refine x_end rfl ?_ | refine n_end rfl ?_ | ((with_reducible refine c_grd ?_); (fail_if_success (refine c_lit true rfl rfl rfl ?_)); (fail_if_success (refine c_lit false rfl rfl rfl ?_)); refine c_split rfl rfl (fun _ => ?_) (fun _ => ?_)))
    · rfl
    · rfl
    · rename_i k1 k
      rw [show ((s.length : Int) - p.length).toNat = s.length - p.length by omega, Int.toNat_natCast, List.take_length] at k
      exact absurd ⟨by omega, by simpa using k⟩ hn

/-! ### Pieces -/
def splA (l : List (List UInt8)) (c : UInt8) : List (List UInt8) := if c = 47 then l ++ [[]] else l.set (l.length - 1) (l.getD (l.length - 1) [] ++ [c])
def splG (s : List UInt8) : List (List UInt8) := s.foldl splA [[]]
theorem splG_take {s : List UInt8} {i : Nat} (h : i < s.length) : splG (s.take (i + 1)) = splA (splG (s.take i)) (s.getD i 0) := by
  unfold splG
  have e : s.take (i + 1) = s.take i ++ [s.getD i 0] := by
    rw [List.take_add_one, List.getElem?_eq_getElem h]
    simp [List.getD_eq_getElem?_getD, h]
  rw [e, List.foldl_append]
  rfl
theorem splA_len (l : List (List UInt8)) (c : UInt8) : (splA l c).length = l.length + (if c = 47 then 1 else 0) := by
  unfold splA
  split <;> simp
theorem splG_len (s : List UInt8) : ∀ i, i ≤ s.length → 1 ≤ (splG (s.take i)).length ∧ (splG (s.take i)).length ≤ i + 1 := by
  intro i
  induction i with
  | zero => intro _; exact ⟨Nat.le_refl _, Nat.le_refl _⟩
  | succ i ih =>
    intro hi
    have := ih (by omega)
    rw [splG_take hi, splA_len]
    split <;> omega
theorem splG_piece (s : List UInt8) : ∀ i, i ≤ s.length → ∀ j, ((splG (s.take i)).getD j []).length ≤ i := by
  intro i
  induction i with
  | zero =>
    intro _ j
    show (([[]] : List (List UInt8)).getD j []).length ≤ 0
    cases j with
    | zero => exact Nat.le_refl _
    | succ j => simp
  | succ i ih =>
    intro hi j
    have h := ih (by omega)
    rw [splG_take hi]
    generalize splG (s.take i) = l at *
    unfold splA
    split
    · simp only [List.getD_eq_getElem?_getD] at h ⊢
      by_cases hj : j < l.length
      · rw [List.getElem?_append_left hj]
        exact Nat.le_succ_of_le (h j)
      · rw [List.getElem?_append_right (by omega)]
        cases e : j - l.length with
        | zero => simp
        | succ k => simp
    · have hm := h (l.length - 1)
      simp only [List.getD_eq_getElem?_getD] at h hm ⊢
      rw [List.getElem?_set]
      split
      · split
        · simp only [Option.getD_some, List.length_append, List.length_cons, List.length_nil]
          omega
        · simp
      · exact Nat.le_succ_of_le (h j)
theorem wxF_put (l : List (List UInt8)) (x : List UInt8) (c : List UInt8) (n : Nat) (hn : n = l.length - 1) (hc : c = [x.getD 0 0]) (h1 : 1 ≤ l.length) (hx : x.length = 1) : ∀ j, j < l.length → putF (wxF l) n (putCells (wxF l n) 0 (D.s (l.getD n [] ++ c)).cells) j = wxF (l.set (l.length - 1) (l.getD (l.length - 1) [] ++ [x.getD 0 0])) j := by
  intro j hj
  subst hn hc
  unfold putF wxF
  by_cases h : j = l.length - 1
  · subst h
    simp [putCells, D.cells, List.getD_eq_getElem?_getD, hj]
  · have h' : ¬ l.length - 1 = j := fun e => h e.symm
    simp [h, h', List.getD_eq_getElem?_getD, List.getElem?_set]
theorem wxF_snoc (l : List (List UInt8)) (g : Nat → List D) (hg : g 0 = [.s []]) : ∀ j, j < l.length + 1 → catF l.length (wxF l) 1 g j = wxF (l ++ [[]]) j := by
  intro j hj
  unfold catF wxF
  by_cases h : j < l.length
  · rw [if_pos h]
    simp [List.getD_eq_getElem?_getD, List.getElem?_append_left h]
  · obtain rfl : j = l.length := by omega
    rw [if_neg h, if_pos (by omega), Nat.sub_self, hg]
    simp [List.getD_eq_getElem?_getD]

set_option maxRecDepth 100000 in
set_option maxHeartbeats 1000000 in
theorem rsplit_ctr (s : List UInt8) (hs : s.length ≤ 4194304) : Ctr Tryd.prog 28 [.s s] (.sl 1 (splG s).length (wxF (splG s))) := by
  refine r_fun Tryd.func28 rfl Tryd.ntmps28 Tryd.results28 rfl rfl fun X hL hX => ?_
  repeat' (first
    | refine r_arr (t := 5) rfl rfl (by (first | omega | exact Nat.le_of_ble_eq_true rfl | ((repeat' refine And.intro ?_ ?_) <;> first | omega | rfl | trivial | exact Nat.le_refl _ | exact Nat.le_of_ble_eq_true rfl) | (simp only [Int.toNat_natCast] at *; (repeat' refine And.intro ?_ ?_) <;> first | omega | rfl | trivial | exact Nat.le_refl _ | exact Nat.le_of_ble_eq_true rfl))) ?_
    | with_reducible refine t_seq ?_ | with_reducible refine t_region ?_ | with_reducible refine c_nil ?_ | with_reducible refine n_then ?_
    | with_reducible refine t_ret ?_ | with_reducible refine t_skip ?_ | with_reducible refine t_exit ?_ | with_reducible refine t_block ?_
    | with_reducible refine n_block ?_ | with_reducible refine e_then ?_ | with_reducible refine x_then ?_ | with_reducible refine x_block ?_ | with_reducible refine t_draw ?_
    | refine r_val rfl rfl True.intro ?_ | refine r_gskip rfl rfl rfl ?_ | refine r_gskip2 rfl rfl rfl ?_ | refine r_gval rfl rfl rfl rfl True.intro ?_
    | refine t_true rfl ?_ | refine t_false rfl ?_
    | ((first | refine t_cond_d rfl (fun _ => ?_) (fun _ => ?_) | refine t_cond_i rfl (fun _ => ?_) (fun _ => ?_) | refine t_cond_j rfl (fun _ => ?_) (fun _ => ?_) | refine t_cond_s rfl (fun _ => ?_) (fun _ => ?_) | refine t_cond_n rfl (fun _ => ?_) (fun _ => ?_) | refine t_cond rfl (fun _ => ?_) (fun _ => ?_) | refine c_split_d rfl rfl (fun _ => ?_) (fun _ => ?_) | refine c_split_i rfl rfl (fun _ => ?_) (fun _ => ?_) | refine c_split_j rfl rfl (fun _ => ?_) (fun _ => ?_) | refine c_split_s rfl rfl (fun _ => ?_) (fun _ => ?_) | refine c_split_n rfl rfl (fun _ => ?_) (fun _ => ?_)) <;> try (first | contradiction | (exfalso; omega)))
    | refine r_val rfl rfl (by (first | omega | exact Nat.le_of_ble_eq_true rfl | ((repeat' refine And.intro ?_ ?_) <;> first | omega | rfl | trivial | exact Nat.le_refl _ | exact Nat.le_of_ble_eq_true rfl) | (simp only [Int.toNat_natCast] at *; (repeat' refine And.intro ?_ ?_) <;> first | omega | rfl | trivial | exact Nat.le_refl _ | exact Nat.le_of_ble_eq_true rfl))) ?_ | refine r_gval rfl rfl rfl rfl (by (first | omega | exact Nat.le_of_ble_eq_true rfl | ((repeat' refine And.intro ?_ ?_) <;> first | omega | rfl | trivial | exact Nat.le_refl _ | exact Nat.le_of_ble_eq_true rfl) | (simp only [Int.toNat_natCast] at *; (repeat' refine And.intro ?_ ?_) <;> first | omega | rfl | trivial | exact Nat.le_refl _ | exact Nat.le_of_ble_eq_true rfl))) ?_
    | refine r_obj rfl rfl (by (first | omega | exact Nat.le_of_ble_eq_true rfl | ((repeat' refine And.intro ?_ ?_) <;> first | omega | rfl | trivial | exact Nat.le_refl _ | exact Nat.le_of_ble_eq_true rfl) | (simp only [Int.toNat_natCast] at *; (repeat' refine And.intro ?_ ?_) <;> first | omega | rfl | trivial | exact Nat.le_refl _ | exact Nat.le_of_ble_eq_true rfl))) ?_ | refine r_sto rfl (by (first | omega | exact Nat.le_of_ble_eq_true rfl | ((repeat' refine And.intro ?_ ?_) <;> first | omega | rfl | trivial | exact Nat.le_refl _ | exact Nat.le_of_ble_eq_true rfl) | (simp only [Int.toNat_natCast] at *; (repeat' refine And.intro ?_ ?_) <;> first | omega | rfl | trivial | exact Nat.le_refl _ | exact Nat.le_of_ble_eq_true rfl))) ?_ | refine r_gobj rfl rfl rfl rfl (by (first | omega | exact Nat.le_of_ble_eq_true rfl | ((repeat' refine And.intro ?_ ?_) <;> first | omega | rfl | trivial | exact Nat.le_refl _ | exact Nat.le_of_ble_eq_true rfl) | (simp only [Int.toNat_natCast] at *; (repeat' refine And.intro ?_ ?_) <;> first | omega | rfl | trivial | exact Nat.le_refl _ | exact Nat.le_of_ble_eq_true rfl))) ?_
    | refine e_hit rfl ?_ | refine e_miss rfl ?_
    | refine ⟨by kernel_rfl, ?_⟩ | ((with_reducible refine c_grd ?_); (fail_if_success (refine c_lit true rfl rfl rfl ?_)); (fail_if_success (refine c_lit false rfl rfl rfl ?_)); refine c_split rfl rfl (fun _ => ?_) (fun _ => ?_)))
  refine T.loop hL (fun i : Nat => [(0, .s s), (3, .ah 5 1 (splG (s.take i)).length), (4, .i .i64 i)]) (fun i => [(5, .arr 9 1 (splG (s.take i)).length (wxF (splG (s.take i))))])
    (fun i => i ≤ s.length) (fun i => s.length - i) 0 (Nat.zero_le _)
    ⟨⟨rfl, rfl, rfl, trivial⟩, ⟨⟨_, _, rfl, rfl, fun i hi => .inl (by
      obtain rfl : i = 0 := by
        have : i < 1 := hi
        omega
      rfl)⟩, trivial⟩, rfl, fun q hq => by rw [hX] at hq; simp at hq⟩ ?_
  intro i hi
  have hln := splG_len s i hi
  have hpl := splG_piece s i hi ((((splG (s.take i)).length : Int) - 1).toNat)
  by_cases hil : i < s.length
  · have hst := splG_take hil
    have ha := at_nat s i
    generalize splG (s.take i) = l at hst hln hpl ⊢
    by_cases hc : s.getD i 0 = 47
    · have hna : at' s i = 47 := by rw [ha, hc]; rfl
      have hn : splG (s.take (i + 1)) = l ++ [[]] := by rw [hst]; exact if_pos hc
      repeat' (first
        | with_reducible refine t_seq ?_ | with_reducible refine t_region ?_ | with_reducible refine c_nil ?_ | with_reducible refine n_then ?_
        | with_reducible refine t_ret ?_ | with_reducible refine t_skip ?_ | with_reducible refine t_exit ?_ | with_reducible refine t_block ?_
        | with_reducible refine n_block ?_ | with_reducible refine e_then ?_ | with_reducible refine x_then ?_ | with_reducible refine x_block ?_ | with_reducible refine t_draw ?_
        | refine r_val rfl rfl True.intro ?_ | refine r_gskip rfl rfl rfl ?_ | refine r_gskip2 rfl rfl rfl ?_ | refine r_gval rfl rfl rfl rfl True.intro ?_
        | refine t_true rfl ?_ | refine t_false rfl ?_
        | ((first | refine t_cond_d rfl (fun _ => ?_) (fun _ => ?_) | refine t_cond_i rfl (fun _ => ?_) (fun _ => ?_) | refine t_cond_j rfl (fun _ => ?_) (fun _ => ?_) | refine t_cond_s rfl (fun _ => ?_) (fun _ => ?_) | refine t_cond_n rfl (fun _ => ?_) (fun _ => ?_) | refine t_cond rfl (fun _ => ?_) (fun _ => ?_) | refine c_split_d rfl rfl (fun _ => ?_) (fun _ => ?_) | refine c_split_i rfl rfl (fun _ => ?_) (fun _ => ?_) | refine c_split_j rfl rfl (fun _ => ?_) (fun _ => ?_) | refine c_split_s rfl rfl (fun _ => ?_) (fun _ => ?_) | refine c_split_n rfl rfl (fun _ => ?_) (fun _ => ?_)) <;> try (first | contradiction | (exfalso; omega)))
        | refine r_val rfl rfl (by (first | omega | exact Nat.le_of_ble_eq_true rfl | ((repeat' refine And.intro ?_ ?_) <;> first | omega | rfl | trivial | exact Nat.le_refl _ | exact Nat.le_of_ble_eq_true rfl) | (simp only [Int.toNat_natCast] at *; (repeat' refine And.intro ?_ ?_) <;> first | omega | rfl | trivial | exact Nat.le_refl _ | exact Nat.le_of_ble_eq_true rfl))) ?_ | refine r_gval rfl rfl rfl rfl (by (first | omega | exact Nat.le_of_ble_eq_true rfl | ((repeat' refine And.intro ?_ ?_) <;> first | omega | rfl | trivial | exact Nat.le_refl _ | exact Nat.le_of_ble_eq_true rfl) | (simp only [Int.toNat_natCast] at *; (repeat' refine And.intro ?_ ?_) <;> first | omega | rfl | trivial | exact Nat.le_refl _ | exact Nat.le_of_ble_eq_true rfl))) ?_
        | refine r_obj rfl rfl (by (first | omega | exact Nat.le_of_ble_eq_true rfl | ((repeat' refine And.intro ?_ ?_) <;> first | omega | rfl | trivial | exact Nat.le_refl _ | exact Nat.le_of_ble_eq_true rfl) | (simp only [Int.toNat_natCast] at *; (repeat' refine And.intro ?_ ?_) <;> first | omega | rfl | trivial | exact Nat.le_refl _ | exact Nat.le_of_ble_eq_true rfl))) ?_ | refine r_sto rfl (by (first | omega | exact Nat.le_of_ble_eq_true rfl | ((repeat' refine And.intro ?_ ?_) <;> first | omega | rfl | trivial | exact Nat.le_refl _ | exact Nat.le_of_ble_eq_true rfl) | (simp only [Int.toNat_natCast] at *; (repeat' refine And.intro ?_ ?_) <;> first | omega | rfl | trivial | exact Nat.le_refl _ | exact Nat.le_of_ble_eq_true rfl))) ?_ | refine r_gobj rfl rfl rfl rfl (by (first | omega | exact Nat.le_of_ble_eq_true rfl | ((repeat' refine And.intro ?_ ?_) <;> first | omega | rfl | trivial | exact Nat.le_refl _ | exact Nat.le_of_ble_eq_true rfl) | (simp only [Int.toNat_natCast] at *; (repeat' refine And.intro ?_ ?_) <;> first | omega | rfl | trivial | exact Nat.le_refl _ | exact Nat.le_of_ble_eq_true rfl))) ?_
        | refine e_hit rfl ?_ | refine e_miss rfl ?_
        | refine ⟨by kernel_rfl, ?_⟩ | ((with_reducible refine c_grd ?_); (fail_if_success (refine c_lit true rfl rfl rfl ?_)); (fail_if_success (refine c_lit false rfl rfl rfl ?_)); refine c_split rfl rfl (fun _ => ?_) (fun _ => ?_)))
      all_goals exact ⟨i + 1, by omega, by omega, ⟨rfl, congrArg (D.ah 5 1) (by rw [hn]; simp), congrArg (D.i .i64) (by omega), trivial⟩, ⟨⟨_, _, rfl, by rw [hn]; simp, fun j hj => .inl (by rw [hn]; exact wxF_snoc l _ rfl j (by first | exact hj | (rw [hn] at hj; simpa using hj)))⟩, trivial⟩, rfl, fun q hq => by rw [hX] at hq; simp at hq⟩
    · have hna : ¬ at' s i = 47 := fun e => hc (UInt8.toNat.inj (by show _ = 47; omega))
      have hn : splG (s.take (i + 1)) = l.set (l.length - 1) (l.getD (l.length - 1) [] ++ [s.getD i 0]) := by rw [hst]; exact if_neg hc
      have hdl : (List.drop (i : Int).toNat (List.take ((i : Int) + 1).toNat s)) = [s.getD i 0] := by
        rw [show ((i : Int) + 1).toNat = i + 1 by omega, Int.toNat_natCast, List.drop_take, Nat.add_sub_cancel_left, List.take_one, List.head?_drop]
        simp [List.getD_eq_getElem?_getD, hil]
      have hdn : (List.drop (i : Int).toNat (List.take ((i : Int) + 1).toNat s)).length = 1 := by rw [hdl]; rfl
      repeat' (first
        | with_reducible refine t_seq ?_ | with_reducible refine t_region ?_ | with_reducible refine c_nil ?_ | with_reducible refine n_then ?_
        | with_reducible refine t_ret ?_ | with_reducible refine t_skip ?_ | with_reducible refine t_exit ?_ | with_reducible refine t_block ?_
        | with_reducible refine n_block ?_ | with_reducible refine e_then ?_ | with_reducible refine x_then ?_ | with_reducible refine x_block ?_ | with_reducible refine t_draw ?_
        | refine r_val rfl rfl True.intro ?_ | refine r_gskip rfl rfl rfl ?_ | refine r_gskip2 rfl rfl rfl ?_ | refine r_gval rfl rfl rfl rfl True.intro ?_
        | refine t_true rfl ?_ | refine t_false rfl ?_
        | ((first | refine t_cond_d rfl (fun _ => ?_) (fun _ => ?_) | refine t_cond_i rfl (fun _ => ?_) (fun _ => ?_) | refine t_cond_j rfl (fun _ => ?_) (fun _ => ?_) | refine t_cond_s rfl (fun _ => ?_) (fun _ => ?_) | refine t_cond_n rfl (fun _ => ?_) (fun _ => ?_) | refine t_cond rfl (fun _ => ?_) (fun _ => ?_) | refine c_split_d rfl rfl (fun _ => ?_) (fun _ => ?_) | refine c_split_i rfl rfl (fun _ => ?_) (fun _ => ?_) | refine c_split_j rfl rfl (fun _ => ?_) (fun _ => ?_) | refine c_split_s rfl rfl (fun _ => ?_) (fun _ => ?_) | refine c_split_n rfl rfl (fun _ => ?_) (fun _ => ?_)) <;> try (first | contradiction | (exfalso; omega)))
        | refine r_val rfl rfl (by (first | omega | exact Nat.le_of_ble_eq_true rfl | ((repeat' refine And.intro ?_ ?_) <;> first | omega | rfl | trivial | exact Nat.le_refl _ | exact Nat.le_of_ble_eq_true rfl) | (simp only [Int.toNat_natCast] at *; (repeat' refine And.intro ?_ ?_) <;> first | omega | rfl | trivial | exact Nat.le_refl _ | exact Nat.le_of_ble_eq_true rfl))) ?_ | refine r_gval rfl rfl rfl rfl (by (first | omega | exact Nat.le_of_ble_eq_true rfl | ((repeat' refine And.intro ?_ ?_) <;> first | omega | rfl | trivial | exact Nat.le_refl _ | exact Nat.le_of_ble_eq_true rfl) | (simp only [Int.toNat_natCast] at *; (repeat' refine And.intro ?_ ?_) <;> first | omega | rfl | trivial | exact Nat.le_refl _ | exact Nat.le_of_ble_eq_true rfl))) ?_
        | refine r_obj rfl rfl (by (first | omega | exact Nat.le_of_ble_eq_true rfl | ((repeat' refine And.intro ?_ ?_) <;> first | omega | rfl | trivial | exact Nat.le_refl _ | exact Nat.le_of_ble_eq_true rfl) | (simp only [Int.toNat_natCast] at *; (repeat' refine And.intro ?_ ?_) <;> first | omega | rfl | trivial | exact Nat.le_refl _ | exact Nat.le_of_ble_eq_true rfl))) ?_ | refine r_sto rfl (by (first | omega | exact Nat.le_of_ble_eq_true rfl | ((repeat' refine And.intro ?_ ?_) <;> first | omega | rfl | trivial | exact Nat.le_refl _ | exact Nat.le_of_ble_eq_true rfl) | (simp only [Int.toNat_natCast] at *; (repeat' refine And.intro ?_ ?_) <;> first | omega | rfl | trivial | exact Nat.le_refl _ | exact Nat.le_of_ble_eq_true rfl))) ?_ | refine r_gobj rfl rfl rfl rfl (by (first | omega | exact Nat.le_of_ble_eq_true rfl | ((repeat' refine And.intro ?_ ?_) <;> first | omega | rfl | trivial | exact Nat.le_refl _ | exact Nat.le_of_ble_eq_true rfl) | (simp only [Int.toNat_natCast] at *; (repeat' refine And.intro ?_ ?_) <;> first | omega | rfl | trivial | exact Nat.le_refl _ | exact Nat.le_of_ble_eq_true rfl))) ?_
        | refine e_hit rfl ?_ | refine e_miss rfl ?_
        | refine ⟨by kernel_rfl, ?_⟩ | ((with_reducible refine c_grd ?_); (fail_if_success (refine c_lit true rfl rfl rfl ?_)); (fail_if_success (refine c_lit false rfl rfl rfl ?_)); refine c_split rfl rfl (fun _ => ?_) (fun _ => ?_)))
      all_goals exact ⟨i + 1, by omega, by omega, ⟨rfl, congrArg (D.ah 5 1) (by rw [hn]; simp), congrArg (D.i .i64) (by omega), trivial⟩, ⟨⟨_, _, rfl, by rw [hn]; simp, fun j hj => .inl (by rw [hn]; exact wxF_put l [s.getD i 0] _ _ (by omega) (by rw [hdl]; rfl) hln.1 rfl j (by first | exact hj | (rw [hn] at hj; simpa using hj)))⟩, trivial⟩, rfl, fun q hq => by rw [hX] at hq; simp at hq⟩
  · have : i = s.length := by omega
    subst this
    rw [List.take_length]
    repeat' (first
      | with_reducible refine t_seq ?_ | with_reducible refine t_region ?_ | with_reducible refine c_nil ?_ | with_reducible refine n_then ?_
      | with_reducible refine t_ret ?_ | with_reducible refine t_skip ?_ | with_reducible refine t_exit ?_ | with_reducible refine t_block ?_
      | with_reducible refine n_block ?_ | with_reducible refine e_then ?_ | with_reducible refine x_then ?_ | with_reducible refine x_block ?_ | with_reducible refine t_draw ?_
      | refine r_val rfl rfl True.intro ?_ | refine r_gskip rfl rfl rfl ?_ | refine r_gskip2 rfl rfl rfl ?_ | refine r_gval rfl rfl rfl rfl True.intro ?_
      | refine t_true rfl ?_ | refine t_false rfl ?_
      | ((first | refine t_cond_d rfl (fun _ => ?_) (fun _ => ?_) | refine t_cond_i rfl (fun _ => ?_) (fun _ => ?_) | refine t_cond_j rfl (fun _ => ?_) (fun _ => ?_) | refine t_cond_s rfl (fun _ => ?_) (fun _ => ?_) | refine t_cond_n rfl (fun _ => ?_) (fun _ => ?_) | refine t_cond rfl (fun _ => ?_) (fun _ => ?_) | refine c_split_d rfl rfl (fun _ => ?_) (fun _ => ?_) | refine c_split_i rfl rfl (fun _ => ?_) (fun _ => ?_) | refine c_split_j rfl rfl (fun _ => ?_) (fun _ => ?_) | refine c_split_s rfl rfl (fun _ => ?_) (fun _ => ?_) | refine c_split_n rfl rfl (fun _ => ?_) (fun _ => ?_)) <;> try (first | contradiction | (exfalso; omega)))
      | refine r_val rfl rfl (by (first | omega | exact Nat.le_of_ble_eq_true rfl | ((repeat' refine And.intro ?_ ?_) <;> first | omega | rfl | trivial | exact Nat.le_refl _ | exact Nat.le_of_ble_eq_true rfl) | (simp only [Int.toNat_natCast] at *; (repeat' refine And.intro ?_ ?_) <;> first | omega | rfl | trivial | exact Nat.le_refl _ | exact Nat.le_of_ble_eq_true rfl))) ?_ | refine r_gval rfl rfl rfl rfl (by (first | omega | exact Nat.le_of_ble_eq_true rfl | ((repeat' refine And.intro ?_ ?_) <;> first | omega | rfl | trivial | exact Nat.le_refl _ | exact Nat.le_of_ble_eq_true rfl) | (simp only [Int.toNat_natCast] at *; (repeat' refine And.intro ?_ ?_) <;> first | omega | rfl | trivial | exact Nat.le_refl _ | exact Nat.le_of_ble_eq_true rfl))) ?_
      | refine r_obj rfl rfl (by (first | omega | exact Nat.le_of_ble_eq_true rfl | ((repeat' refine And.intro ?_ ?_) <;> first | omega | rfl | trivial | exact Nat.le_refl _ | exact Nat.le_of_ble_eq_true rfl) | (simp only [Int.toNat_natCast] at *; (repeat' refine And.intro ?_ ?_) <;> first | omega | rfl | trivial | exact Nat.le_refl _ | exact Nat.le_of_ble_eq_true rfl))) ?_ | refine r_sto rfl (by (first | omega | exact Nat.le_of_ble_eq_true rfl | ((repeat' refine And.intro ?_ ?_) <;> first | omega | rfl | trivial | exact Nat.le_refl _ | exact Nat.le_of_ble_eq_true rfl) | (simp only [Int.toNat_natCast] at *; (repeat' refine And.intro ?_ ?_) <;> first | omega | rfl | trivial | exact Nat.le_refl _ | exact Nat.le_of_ble_eq_true rfl))) ?_ | refine r_gobj rfl rfl rfl rfl (by (first | omega | exact Nat.le_of_ble_eq_true rfl | ((repeat' refine And.intro ?_ ?_) <;> first | omega | rfl | trivial | exact Nat.le_refl _ | exact Nat.le_of_ble_eq_true rfl) | (simp only [Int.toNat_natCast] at *; (repeat' refine And.intro ?_ ?_) <;> first | omega | rfl | trivial | exact Nat.le_refl _ | exact Nat.le_of_ble_eq_true rfl))) ?_
      | refine e_hit rfl ?_ | refine e_miss rfl ?_
      | refine ⟨by kernel_rfl, ?_⟩ | refine x_endF [2] 5 rfl ⟨rfl, trivial⟩ rfl ?_ | ((with_reducible refine c_grd ?_); (fail_if_success (refine c_lit true rfl rfl rfl ?_)); (fail_if_success (refine c_lit false rfl rfl rfl ?_)); refine c_split rfl rfl (fun _ => ?_) (fun _ => ?_)))
    all_goals exact .refl _

end Go.Proofs.YtghdgjabpdfaoaaDoor.Flow

/- SERVE: paths, the plain law. -/
namespace Go.Proofs.YtghdgjabpdfaoaaDoor.Flow
open Go

def consH (c : UInt8) : List (List UInt8) → List (List UInt8)
  | [] => [[c]]
  | a :: t => (c :: a) :: t
def consA (a : List UInt8) : List (List UInt8) → List (List UInt8)
  | [] => [a]
  | h :: t => (a ++ h) :: t
def spl : List UInt8 → List (List UInt8)
  | [] => [[]]
  | c :: s => if c = 47 then [] :: spl s else consH c (spl s)
theorem spl_cons (s : List UInt8) : ∃ a t, spl s = a :: t := by
  cases s with
  | nil => exact ⟨_, _, rfl⟩
  | cons c s =>
    unfold spl
    split
    · exact ⟨_, _, rfl⟩
    · cases spl s with
      | nil => exact ⟨_, _, rfl⟩
      | cons a t => exact ⟨_, _, rfl⟩

theorem splitK_ne {b : UInt8} (h : ¬ b = 47) (l : List UInt8) (k : Nat) : Lib.splitK [47] 0 k (b :: l) = consH b (Lib.splitK [47] 0 k l) := by
  cases k with
  | zero => rfl
  | succ k =>
    have hp : ([47] : List UInt8).isPrefixOf (b :: l) = false := by
      simp only [List.isPrefixOf, Bool.and_true]
      exact beq_eq_false_iff_ne.2 fun e => h e.symm
    have hix : Lib.index (b :: l) [47] = if Lib.index l [47] == -1 then -1 else Lib.index l [47] + 1 := by
      rw [Lib.index, hp]
      simp
    have hge := Lib.index_ge l [47]
    unfold Lib.splitK
    by_cases hm : Lib.index l [47] = -1
    · rw [hix, if_pos (beq_iff_eq.2 hm), if_pos (by decide), if_pos (beq_iff_eq.2 hm)]
      rfl
    · have hm' : ¬ (Lib.index l [47] == -1) = true := fun e => hm (beq_iff_eq.1 e)
      rw [hix, if_neg hm', if_neg (fun e => by have := beq_iff_eq.1 e; omega), if_neg hm']
      have e : (Lib.index l [47] + 1).toNat = (Lib.index l [47]).toNat + 1 := by omega
      rw [e]
      rfl

theorem split_spl : ∀ s : List UInt8, Lib.split s [47] = spl s
  | [] => by
    unfold Lib.split
    rw [Lib.count_one]
    rfl
  | c :: s => by
    have ih := split_spl s
    unfold Lib.split at ih ⊢
    unfold spl
    by_cases h : c = 47
    · subst h
      rw [Lib.count_cons_eq, Nat.add_comm 1, if_pos rfl, ← ih]
      have hix : Lib.index ((47 : UInt8) :: s) [47] = 0 := by
        rw [Lib.index]
        simp [List.isPrefixOf]
      rw [Lib.splitK, hix]
      rfl
    · rw [Lib.count_cons_ne _ _ _ h, splitK_ne h, ih, if_neg h]

theorem fold_spl : ∀ (s : List UInt8) (ls : List (List UInt8)) (a : List UInt8), s.foldl splA (ls ++ [a]) = ls ++ consA a (spl s)
  | [], ls, a => by
    show ls ++ [a] = ls ++ [a ++ []]
    rw [List.append_nil]
  | c :: s, ls, a => by
    rw [List.foldl_cons]
    obtain ⟨x, t, hx⟩ := spl_cons s
    unfold spl
    by_cases h : c = 47
    · rw [if_pos h]
      have e : splA (ls ++ [a]) c = (ls ++ [a]) ++ [[]] := if_pos h
      rw [e, fold_spl s (ls ++ [a]) [], hx]
      show _ = ls ++ ((a ++ []) :: x :: t)
      simp [consA]
    · rw [if_neg h]
      have e : splA (ls ++ [a]) c = ls ++ [a ++ [c]] := by
        unfold splA
        rw [if_neg h]
        simp
      rw [e, fold_spl s ls (a ++ [c]), hx]
      simp [consA, consH]

theorem splG_spl (s : List UInt8) : splG s = spl s := by
  have h := fold_spl s [] []
  obtain ⟨x, t, hx⟩ := spl_cons s
  rw [hx] at h ⊢
  exact h
theorem splitL_spl (s : List UInt8) : splitL s [47] = spl s := by
  rw [← split_spl]
  unfold splitL Lib.split
  rw [Lib.splitB_data]

/-- The last piece, made longer. -/
def appL : List (List UInt8) → List UInt8 → List (List UInt8)
  | [], e => [e]
  | [a], e => [a ++ e]
  | a :: b :: t, e => a :: appL (b :: t) e
theorem spl_no : ∀ {e : List UInt8}, (47 : UInt8) ∉ e → spl e = [e]
  | [], _ => rfl
  | c :: e, h => by
    unfold spl
    rw [if_neg (fun q => h (by rw [q]; exact List.mem_cons_self)), spl_no (fun q => h (List.mem_cons_of_mem _ q))]
    rfl
theorem spl_app {e : List UInt8} (he : (47 : UInt8) ∉ e) : ∀ u, spl (u ++ e) = appL (spl u) e
  | [] => spl_no he
  | c :: u => by
    rw [List.cons_append]
    obtain ⟨a, t, hx⟩ := spl_cons u
    unfold spl
    rw [spl_app he u, hx]
    split
    · rfl
    · cases t with
      | nil => rfl
      | cons b t => rfl
theorem appL_len (l : List (List UInt8)) (e : List UInt8) (h : l ≠ []) : (appL l e).length = l.length := by
  induction l with
  | nil => exact absurd rfl h
  | cons a t ih =>
    cases t with
    | nil => rfl
    | cons b t =>
      show (appL (b :: t) e).length + 1 = _
      rw [ih (by simp)]
      rfl
theorem spl_mem : ∀ {s : List UInt8}, (47 : UInt8) ∈ s → 2 ≤ (spl s).length
  | [], h => by cases h
  | c :: s, h => by
    obtain ⟨a, t, hx⟩ := spl_cons s
    unfold spl
    by_cases hc : c = 47
    · rw [if_pos hc, hx]
      simp
    · rw [if_neg hc]
      have := spl_mem (s := s) (by
        rcases List.mem_cons.1 h with h | h
        · exact absurd h.symm hc
        · exact h)
      rw [hx] at this ⊢
      exact this
theorem spl_one {s a : List UInt8} (h : spl s = [a]) : s = a ∧ (47 : UInt8) ∉ s := by
  have hn : (47 : UInt8) ∉ s := fun q => by
    have := spl_mem q
    rw [h] at this
    exact absurd (show 2 ≤ 1 from this) (by decide)
  rw [spl_no hn] at h
  exact ⟨(List.cons.inj h).1, hn⟩
theorem spl_last : ∀ s : List UInt8, (spl s).getLastD [] <:+ s
  | [] => List.suffix_refl _
  | c :: s => by
    have ih := spl_last s
    obtain ⟨a, t, hx⟩ := spl_cons s
    unfold spl
    rw [hx] at ih ⊢
    by_cases hc : c = 47
    · rw [if_pos hc]
      exact ih.trans (List.suffix_cons _ _)
    · rw [if_neg hc]
      cases t with
      | nil =>
        rw [(spl_one hx).1]
        exact List.suffix_refl _
      | cons b t => exact List.IsSuffix.trans (l₂ := s) ih (List.suffix_cons _ _)

/-! ### Routes -/
def jsonE : List UInt8 := [46, 106, 115, 111, 110]
def mvtE : List UInt8 := [46, 109, 118, 116]
def plZ (z x y : Int) : D := .ag [.i .i64 z, .i .i64 x, .i .i64 y]
def noR : List D := [.s [], plZ 0 0 0, .b false, .b false]
def docR (id : List UInt8) : List D := [.s id, plZ 0 0 0, .b false, .b true]
def tileR (id : List UInt8) (z x y : Int) : List D := [.s id, plZ z x y, .b true, .b true]
def jsP (t : List UInt8) : Prop := Lib.hasSuffix t jsonE = true ∧ nmB (Lib.trimSuffix t jsonE) = true
def tiP (t : List UInt8) (l : List (List UInt8)) : Prop := Lib.hasSuffix t mvtE = true ∧ l.length = 4 ∧ nmB (l.getD 0 []) = true ∧ nuB (l.getD 1 []) = true ∧ nuB (l.getD 2 []) = true ∧ nuB (l.getD 3 []) = true
def jsD (l : List (List UInt8)) : Prop := l.length = 2 ∧ l.getD 0 [] = [] ∧ Lib.hasSuffix (l.getD 1 []) jsonE = true ∧ nmB (cutV (l.getD 1 []) jsonE) = true
def tiD (l : List (List UInt8)) : Prop := l.length = 5 ∧ l.getD 0 [] = [] ∧ nmB (l.getD 1 []) = true ∧ Lib.hasSuffix (l.getD 4 []) mvtE = true ∧ nuB (l.getD 2 []) = true ∧ nuB (l.getD 3 []) = true ∧ nuB (cutV (l.getD 4 []) mvtE) = true
instance (t : List UInt8) : Decidable (jsP t) := by unfold jsP; infer_instance
instance (t : List UInt8) (l : List (List UInt8)) : Decidable (tiP t l) := by unfold tiP; infer_instance
instance (l : List (List UInt8)) : Decidable (jsD l) := by unfold jsD; infer_instance
instance (l : List (List UInt8)) : Decidable (tiD l) := by unfold tiD; infer_instance
/-- What lies behind the first slash, by the program. -/
def routeT (t : List UInt8) : List D :=
  if jsP t then docR (Lib.trimSuffix t jsonE)
  else if tiP t (spl (Lib.trimSuffix t mvtE)) then
    tileR ((spl (Lib.trimSuffix t mvtE)).getD 0 []) (nuV ((spl (Lib.trimSuffix t mvtE)).getD 1 [])) (nuV ((spl (Lib.trimSuffix t mvtE)).getD 2 [])) (nuV ((spl (Lib.trimSuffix t mvtE)).getD 3 []))
  else noR
/-- A path's, by the program. -/
def routeP (path : List UInt8) : List D := if Lib.hasPrefix path [47] = true then routeT (Lib.trimPrefix path [47]) else noR
def routeL (l : List (List UInt8)) : List D :=
  if jsD l then docR (cutV (l.getD 1 []) jsonE)
  else if tiD l then tileR (l.getD 1 []) (nuV (l.getD 2 [])) (nuV (l.getD 3 [])) (nuV (cutV (l.getD 4 []) mvtE))
  else noR
/-- A path's, by the document. -/
def routeD (path : List UInt8) : List D := routeL (spl path)

theorem nm_no {s : List UInt8} (h : (47 : UInt8) ∈ s) : nmB s = false := by
  unfold nmB
  have : s.all nmC = false := List.all_eq_false.2 ⟨47, h, by decide⟩
  rw [this]
  rfl
theorem sfx_trim {s p : List UInt8} (h : Lib.hasSuffix s p = true) : Lib.trimSuffix s p = cutV s p ∧ s = cutV s p ++ p := by
  have h2 := sfx_iff.1 h
  have e : cutV s p = s.take (s.length - p.length) := if_pos h
  refine ⟨by unfold Lib.trimSuffix; rw [if_pos h, e], ?_⟩
  rw [e]
  have := List.take_append_drop (s.length - p.length) s
  rw [h2.2] at this
  exact this.symm
theorem sfx_app (a p : List UInt8) : Lib.hasSuffix (a ++ p) p = true ∧ cutV (a ++ p) p = a := by
  have h : Lib.hasSuffix (a ++ p) p = true := sfx_iff.2 ⟨by simp, by simp⟩
  exact ⟨h, by unfold cutV; rw [if_pos h]; simp⟩
theorem len4 : ∀ {l : List (List UInt8)}, l.length = 4 → ∃ a b c d, l = [a, b, c, d]
  | [_, _, _, _], _ => ⟨_, _, _, _, rfl⟩
theorem sfx_mem {t p : List UInt8} (h : Lib.hasSuffix t p = true) (hp : (47 : UInt8) ∉ p) (hm : (47 : UInt8) ∈ t) : (47 : UInt8) ∈ cutV t p := by
  rw [(sfx_trim h).2] at hm
  rcases List.mem_append.1 hm with h | h
  · exact h
  · exact absurd h hp

theorem route_in (t : List UInt8) (l : List (List UInt8)) (h3 : l = [] :: spl t) : routeT t = routeL l := by
  subst h3
  have hj : (47 : UInt8) ∉ jsonE := by decide
  have hv : (47 : UInt8) ∉ mvtE := by decide
  unfold routeT routeL
  by_cases hm : (47 : UInt8) ∈ t
  · have hm2 := spl_mem hm
    have a1 : ¬ jsP t := fun q => by
      have := nm_no (sfx_mem q.1 hj hm)
      rw [← (sfx_trim q.1).1, q.2] at this
      cases this
    have a2 : ¬ jsD ([] :: spl t) := fun q => by
      have := q.1
      rw [List.length_cons] at this
      omega
    rw [if_neg a1, if_neg a2]
    cases hs : Lib.hasSuffix t mvtE with
    | true =>
      obtain ⟨e1, e2⟩ := sfx_trim hs
      rw [e1]
      have e3 : spl t = appL (spl (cutV t mvtE)) mvtE := by
        rw [← spl_app hv, ← e2]
      rw [e3]
      have e4 := appL_len (spl (cutV t mvtE)) mvtE (by obtain ⟨a, r, hx⟩ := spl_cons (cutV t mvtE); rw [hx]; simp)
      by_cases hl : (spl (cutV t mvtE)).length = 4
      · obtain ⟨a, b, c, d, hx⟩ := len4 hl
        have e5 := sfx_app d mvtE
        rw [hx]
        have e6 : appL [a, b, c, d] mvtE = [a, b, c, d ++ mvtE] := rfl
        rw [e6]
        by_cases hq : nmB a = true ∧ nuB b = true ∧ nuB c = true ∧ nuB d = true
        · have b1 : tiP t [a, b, c, d] := ⟨hs, rfl, hq.1, hq.2.1, hq.2.2.1, hq.2.2.2⟩
          have b2 : tiD ([] :: [a, b, c, d ++ mvtE]) := ⟨rfl, rfl, hq.1, e5.1, hq.2.1, hq.2.2.1, by show nuB (cutV (d ++ mvtE) mvtE) = true; rw [e5.2]; exact hq.2.2.2⟩
          rw [if_pos b1, if_pos b2]
          show tileR a (nuV b) (nuV c) (nuV d) = tileR a (nuV b) (nuV c) (nuV (cutV (d ++ mvtE) mvtE))
          rw [e5.2]
        · have b1 : ¬ tiP t [a, b, c, d] := fun q => hq ⟨q.2.2.1, q.2.2.2.1, q.2.2.2.2.1, q.2.2.2.2.2⟩
          have b2 : ¬ tiD ([] :: [a, b, c, d ++ mvtE]) := fun q => hq ⟨q.2.2.1, q.2.2.2.2.1, q.2.2.2.2.2.1, by
            have : nuB (cutV (d ++ mvtE) mvtE) = true := q.2.2.2.2.2.2
            rwa [e5.2] at this⟩
          rw [if_neg b1, if_neg b2]
      · have b1 : ¬ tiP t (spl (cutV t mvtE)) := fun q => hl q.2.1
        have b2 : ¬ tiD ([] :: appL (spl (cutV t mvtE)) mvtE) := fun q => by
          have := q.1
          rw [List.length_cons] at this
          omega
        rw [if_neg b1, if_neg b2]
    | false =>
      have b1 : ∀ l, ¬ tiP t l := fun l q => by
        have q1 := q.1
        rw [hs] at q1
        cases q1
      have b2 : ¬ tiD ([] :: spl t) := fun q => by
        have hl := q.1
        rw [List.length_cons] at hl
        obtain ⟨a, b, c, d, hx⟩ := len4 (by omega : (spl t).length = 4)
        rw [hx] at q
        have h7 : Lib.hasSuffix d mvtE = true := q.2.2.2.1
        have h8 := spl_last t
        rw [hx] at h8
        have h8 : d <:+ t := h8
        have h9 : Lib.hasSuffix t mvtE = true := by
          unfold Lib.hasSuffix at h7 ⊢
          rw [List.isSuffixOf_iff_suffix] at h7 ⊢
          exact h7.trans h8
        rw [hs] at h9
        cases h9
      rw [if_neg (b1 _), if_neg b2]
  · rw [spl_no hm]
    have b1 : ¬ tiP t (spl (Lib.trimSuffix t mvtE)) := fun q => by
      obtain ⟨e1, e2⟩ := sfx_trim q.1
      have hl := q.2.1
      have : (47 : UInt8) ∉ cutV t mvtE := fun w => hm (by rw [e2]; exact List.mem_append_left _ w)
      rw [e1, spl_no this] at hl
      cases hl
    have b2 : ¬ tiD ([] :: [t]) := fun q => by cases q.1
    rw [if_neg b1, if_neg b2]
    by_cases hs : Lib.hasSuffix t jsonE = true ∧ nmB (cutV t jsonE) = true
    · have a1 : jsP t := ⟨hs.1, by rw [(sfx_trim hs.1).1]; exact hs.2⟩
      have a2 : jsD ([] :: [t]) := ⟨rfl, rfl, hs.1, hs.2⟩
      rw [if_pos a1, if_pos a2, (sfx_trim hs.1).1]
      rfl
    · have a1 : ¬ jsP t := fun q => hs ⟨q.1, by rw [← (sfx_trim q.1).1]; exact q.2⟩
      have a2 : ¬ jsD ([] :: [t]) := fun q => hs ⟨q.2.2.1, q.2.2.2⟩
      rw [if_neg a1, if_neg a2]

theorem route_eq (path : List UInt8) : routeP path = routeD path := by
  cases path with
  | nil => rfl
  | cons c t =>
    unfold routeP routeD
    by_cases hc : c = 47
    · subst hc
      have h1 : Lib.hasPrefix ((47 : UInt8) :: t) [47] = true := rfl
      have h2 : Lib.trimPrefix ((47 : UInt8) :: t) [47] = t := rfl
      rw [if_pos h1, h2]
      exact route_in t _ rfl
    · have h1 : ¬ Lib.hasPrefix (c :: t) [47] = true := by
        unfold Lib.hasPrefix
        simp only [List.isPrefixOf, Bool.and_true]
        intro e
        exact hc (beq_iff_eq.1 e).symm
      obtain ⟨a, r, hx⟩ := spl_cons t
      have h3 : spl (c :: t) = (c :: a) :: r := by
        unfold spl
        rw [if_neg hc, hx]
        rfl
      have a1 : ¬ jsD ((c :: a) :: r) := fun q => by cases q.2.1
      have a2 : ¬ tiD ((c :: a) :: r) := fun q => by cases q.2.1
      rw [if_neg h1, h3]
      unfold routeL
      rw [if_neg a1, if_neg a2]

end Go.Proofs.YtghdgjabpdfaoaaDoor.Flow

/- SERVE: paths, by both. -/
namespace Go.Proofs.YtghdgjabpdfaoaaDoor.Flow
open Go

def nuI (s : List UInt8) : Int := if nuB s = true then nuV s else 0
theorem nuR_eq (s : List UInt8) : nuR s = [.i .i64 (nuI s), .b (nuB s)] := by
  unfold nuR nuI
  cases nuB s <;> rfl
theorem nuI_eq {s : List UInt8} (h : nuB s = true) : nuI s = nuV s := if_pos h
theorem spl_piece (s : List UInt8) (j : Nat) : ((spl s).getD j []).length ≤ s.length := by
  have := splG_piece s s.length (Nat.le_refl _) j
  rwa [List.take_length, splG_spl] at this
theorem spl_len (s : List UInt8) : (spl s).length ≤ s.length + 1 := by
  have := (splG_len s s.length (Nat.le_refl _)).2
  rwa [List.take_length, splG_spl] at this
theorem trimP_len (s p : List UInt8) : (Lib.trimPrefix s p).length ≤ s.length := by
  unfold Lib.trimPrefix
  split
  · rw [List.length_drop]; omega
  · exact Nat.le_refl _
theorem trimS_len (s p : List UInt8) : (Lib.trimSuffix s p).length ≤ s.length := by
  unfold Lib.trimSuffix
  split
  · rw [List.length_take]; omega
  · exact Nat.le_refl _
theorem cutV_len (s p : List UInt8) : (cutV s p).length ≤ s.length := by
  unfold cutV
  split
  · rw [List.length_take]; omega
  · exact Nat.zero_le _

set_option maxRecDepth 100000 in
set_option maxHeartbeats 2000000 in
theorem route_ctr (path : List UInt8) (hs : path.length ≤ 4194304) : Ctr Tryd.prog 8 [.s path] (.tu (routeP path)) := by
  have c1 := w_cutPrefix path [47]
  have h1 := trimP_len path [47]
  have hR : routeP path = if Lib.hasPrefix path [47] = true then routeT (Lib.trimPrefix path [47]) else noR := rfl
  generalize routeP path = R at hR
  generalize Lib.trimPrefix path [47] = t at *
  generalize Lib.hasPrefix path [47] = b1 at *
  have c2 := w_cutSuffix t [46, 106, 115, 111, 110] (by omega)
  have c4 := w_cutSuffix t [46, 109, 118, 116] (by omega)
  have h2 := trimS_len t jsonE
  have h4 := trimS_len t mvtE
  have hT : routeT t = if Lib.hasSuffix t jsonE = true ∧ nmB (Lib.trimSuffix t jsonE) = true then docR (Lib.trimSuffix t jsonE) else if Lib.hasSuffix t mvtE = true ∧ (spl (Lib.trimSuffix t mvtE)).length = 4 ∧ nmB ((spl (Lib.trimSuffix t mvtE)).getD 0 []) = true ∧ nuB ((spl (Lib.trimSuffix t mvtE)).getD 1 []) = true ∧ nuB ((spl (Lib.trimSuffix t mvtE)).getD 2 []) = true ∧ nuB ((spl (Lib.trimSuffix t mvtE)).getD 3 []) = true then
    tileR ((spl (Lib.trimSuffix t mvtE)).getD 0 []) (nuV ((spl (Lib.trimSuffix t mvtE)).getD 1 [])) (nuV ((spl (Lib.trimSuffix t mvtE)).getD 2 [])) (nuV ((spl (Lib.trimSuffix t mvtE)).getD 3 [])) else noR := by
    unfold routeT
    by_cases q : jsP t
    · rw [if_pos q]
      exact (if_pos q).symm
    · rw [if_neg q]
      refine Eq.trans ?_ (if_neg q).symm
      by_cases q : tiP t (spl (Lib.trimSuffix t mvtE))
      · rw [if_pos q]
        exact (if_pos q).symm
      · rw [if_neg q]
        exact (if_neg q).symm
  unfold jsonE at h2 hT
  unfold mvtE at h4 hT
  have c3 := cname_ctr (Lib.trimSuffix t [46, 106, 115, 111, 110]) (by omega)
  generalize Lib.trimSuffix t [46, 106, 115, 111, 110] = u at *
  generalize Lib.hasSuffix t [46, 106, 115, 111, 110] = b2 at *
  generalize Lib.hasSuffix t [46, 109, 118, 116] = b4 at *
  have c5 := w_split (Lib.trimSuffix t [46, 109, 118, 116]) [47] (by omega) (by decide)
  have hp := fun j => Nat.le_trans (spl_piece (Lib.trimSuffix t [46, 109, 118, 116]) j) h4
  have hl := spl_len (Lib.trimSuffix t [46, 109, 118, 116])
  rw [splitL_spl] at c5
  generalize Lib.trimSuffix t [46, 109, 118, 116] = v at *
  generalize spl v = l at *
  have c6 := cname_ctr (l.getD 0 []) (by have := hp 0; omega)
  have c7 := num35_ctr (l.getD 1 []) (by have := hp 1; omega)
  have c8 := num35_ctr (l.getD 2 []) (by have := hp 2; omega)
  have c9 := num35_ctr (l.getD 3 []) (by have := hp 3; omega)
  rw [nuR_eq] at c7 c8 c9
  refine r_fun Tryd.func8 rfl Tryd.ntmps8 Tryd.results8 rfl (by subst hR; rw [hT]; (repeat' split) <;> rfl) fun X hL hX => ?_
  rw [hT] at hR
  clear hT hp
  repeat' (first
    | with_reducible refine t_seq ?_ | with_reducible refine t_region ?_ | with_reducible refine c_nil ?_ | with_reducible refine n_then ?_
    | with_reducible refine t_ret ?_ | with_reducible refine t_skip ?_ | with_reducible refine t_exit ?_ | with_reducible refine t_block ?_
    | with_reducible refine n_block ?_ | with_reducible refine e_then ?_ | with_reducible refine x_then ?_ | with_reducible refine x_block ?_ | with_reducible refine t_draw ?_
    | refine r_val rfl rfl True.intro ?_ | refine r_gskip rfl rfl rfl ?_ | refine r_gskip2 rfl rfl rfl ?_ | refine r_gval rfl rfl rfl rfl True.intro ?_
    | refine t_true rfl ?_ | refine t_false rfl ?_
    | ((first | refine t_cond_d rfl (fun _ => ?_) (fun _ => ?_) | refine t_cond_i rfl (fun _ => ?_) (fun _ => ?_) | refine t_cond_j rfl (fun _ => ?_) (fun _ => ?_) | refine t_cond_s rfl (fun _ => ?_) (fun _ => ?_) | refine t_cond_n rfl (fun _ => ?_) (fun _ => ?_) | refine t_cond rfl (fun _ => ?_) (fun _ => ?_) | refine c_split_d rfl rfl (fun _ => ?_) (fun _ => ?_) | refine c_split_i rfl rfl (fun _ => ?_) (fun _ => ?_) | refine c_split_j rfl rfl (fun _ => ?_) (fun _ => ?_) | refine c_split_s rfl rfl (fun _ => ?_) (fun _ => ?_) | refine c_split_n rfl rfl (fun _ => ?_) (fun _ => ?_)) <;> try (first | contradiction | (exfalso; omega)))
    | refine r_val rfl rfl (by (first | omega | exact Nat.le_of_ble_eq_true rfl | (simp_all; done) | (simp_all; omega) | ((repeat' refine And.intro ?_ ?_) <;> first | omega | rfl | exact Nat.le_refl _ | exact Nat.le_of_ble_eq_true rfl | exact bytesF_one _ | (simp_all; done) | (simp_all; omega)))) ?_ | refine r_gval rfl rfl rfl rfl (by (first | omega | exact Nat.le_of_ble_eq_true rfl | (simp_all; done) | (simp_all; omega) | ((repeat' refine And.intro ?_ ?_) <;> first | omega | rfl | exact Nat.le_refl _ | exact Nat.le_of_ble_eq_true rfl | exact bytesF_one _ | (simp_all; done) | (simp_all; omega)))) ?_
    | refine r_obj rfl rfl (by (first | omega | exact Nat.le_of_ble_eq_true rfl | (simp_all; done) | (simp_all; omega) | ((repeat' refine And.intro ?_ ?_) <;> first | omega | rfl | exact Nat.le_refl _ | exact Nat.le_of_ble_eq_true rfl | exact bytesF_one _ | (simp_all; done) | (simp_all; omega)))) ?_ | refine r_sto rfl (by (first | omega | exact Nat.le_of_ble_eq_true rfl | (simp_all; done) | (simp_all; omega) | ((repeat' refine And.intro ?_ ?_) <;> first | omega | rfl | exact Nat.le_refl _ | exact Nat.le_of_ble_eq_true rfl | exact bytesF_one _ | (simp_all; done) | (simp_all; omega)))) ?_ | refine r_gobj rfl rfl rfl rfl (by (first | omega | exact Nat.le_of_ble_eq_true rfl | (simp_all; done) | (simp_all; omega) | ((repeat' refine And.intro ?_ ?_) <;> first | omega | rfl | exact Nat.le_refl _ | exact Nat.le_of_ble_eq_true rfl | exact bytesF_one _ | (simp_all; done) | (simp_all; omega)))) ?_
    | refine e_hit rfl ?_ | refine e_miss rfl ?_
    | refine ⟨by kernel_rfl, ?_⟩ | refine r_call (f := 23) rfl rfl Tryd.call23 rfl c1 ?_ | refine r_call (f := 24) rfl rfl Tryd.call24 rfl c2 ?_ | refine r_call (f := 24) rfl rfl Tryd.call24 rfl c4 ?_ | refine r_gcall (f := 25) rfl rfl rfl rfl Tryd.call25 rfl c3 ?_ | refine r_gcall (f := 25) rfl rfl rfl rfl Tryd.call25 rfl c6 ?_ | refine r_call (f := 26) rfl rfl Tryd.call26 rfl c5 ?_ | refine r_call (f := 27) rfl rfl Tryd.call27 rfl c7 ?_ | refine r_call (f := 27) rfl rfl Tryd.call27 rfl c8 ?_ | refine r_call (f := 27) rfl rfl Tryd.call27 rfl c9 ?_ | refine x_end rfl ?_ | refine n_end rfl ?_ | ((with_reducible refine c_grd ?_); (fail_if_success (refine c_lit true rfl rfl rfl ?_)); (fail_if_success (refine c_lit false rfl rfl rfl ?_)); refine c_split rfl rfl (fun _ => ?_) (fun _ => ?_)))
  all_goals
    clear c1 c2 c3 c4 c5 c6 c7 c8 c9 hL hX
    refine congrArg D.tu (Eq.trans ?_ hR.symm)
    first | (simp_all [tileR, docR, noR, plZ, D.shut, nuI]; done) | (simp_all [tileR, docR, noR, plZ, D.shut, nuI]; omega) | trace_state

set_option maxRecDepth 100000 in
set_option maxHeartbeats 2000000 in
theorem rroute_ctr (path : List UInt8) (hs : path.length ≤ 4194304) : Ctr Tryd.prog 9 [.s path] (.tu (routeD path)) := by
  have c1 := rsplit_ctr path hs
  rw [splG_spl] at c1
  have hp := fun j => Nat.le_trans (spl_piece path j) hs
  have hl := spl_len path
  have hR : routeD path = routeL (spl path) := rfl
  generalize routeD path = R at hR
  generalize spl path = l at *
  have hT : routeL l = if l.length = 2 ∧ l.getD 0 [] = [] ∧ Lib.hasSuffix (l.getD 1 []) jsonE = true ∧ nmB (cutV (l.getD 1 []) jsonE) = true then docR (cutV (l.getD 1 []) jsonE) else if l.length = 5 ∧ l.getD 0 [] = [] ∧ nmB (l.getD 1 []) = true ∧ Lib.hasSuffix (l.getD 4 []) mvtE = true ∧ nuB (l.getD 2 []) = true ∧ nuB (l.getD 3 []) = true ∧ nuB (cutV (l.getD 4 []) mvtE) = true then
    tileR (l.getD 1 []) (nuV (l.getD 2 [])) (nuV (l.getD 3 [])) (nuV (cutV (l.getD 4 []) mvtE)) else noR := by
    unfold routeL
    by_cases q : jsD l
    · rw [if_pos q]
      exact (if_pos q).symm
    · rw [if_neg q]
      refine Eq.trans ?_ (if_neg q).symm
      by_cases q : tiD l
      · rw [if_pos q]
        exact (if_pos q).symm
      · rw [if_neg q]
        exact (if_neg q).symm
  have c2 := rcut_ctr (l.getD 1 []) jsonE (hp 1) (by decide)
  have c4 := rcut_ctr (l.getD 4 []) mvtE (hp 4) (by decide)
  have h2 := Nat.le_trans (cutV_len (l.getD 1 []) jsonE) (hp 1)
  have h4 := Nat.le_trans (cutV_len (l.getD 4 []) mvtE) (hp 4)
  unfold jsonE mvtE at *
  have c3 := rname_ctr (cutV (l.getD 1 []) [46, 106, 115, 111, 110]) h2
  generalize cutV (l.getD 1 []) [46, 106, 115, 111, 110] = u at *
  generalize Lib.hasSuffix (l.getD 1 []) [46, 106, 115, 111, 110] = b2 at *
  generalize Lib.hasSuffix (l.getD 4 []) [46, 109, 118, 116] = b4 at *
  generalize cutV (l.getD 4 []) [46, 109, 118, 116] = v at *
  have c6 := rname_ctr (l.getD 1 []) (hp 1)
  have c7 := rnum35_ctr (l.getD 2 []) (hp 2)
  have c8 := rnum35_ctr (l.getD 3 []) (hp 3)
  have c9 := rnum35_ctr v h4
  rw [nuR_eq] at c7 c8 c9
  refine r_fun Tryd.func9 rfl Tryd.ntmps9 Tryd.results9 rfl (by subst hR; rw [hT]; (repeat' split) <;> rfl) fun X hL hX => ?_
  rw [hT] at hR
  clear hT hp
  repeat' (first
    | with_reducible refine t_seq ?_ | with_reducible refine t_region ?_ | with_reducible refine c_nil ?_ | with_reducible refine n_then ?_
    | with_reducible refine t_ret ?_ | with_reducible refine t_skip ?_ | with_reducible refine t_exit ?_ | with_reducible refine t_block ?_
    | with_reducible refine n_block ?_ | with_reducible refine e_then ?_ | with_reducible refine x_then ?_ | with_reducible refine x_block ?_ | with_reducible refine t_draw ?_
    | refine r_val rfl rfl True.intro ?_ | refine r_gskip rfl rfl rfl ?_ | refine r_gskip2 rfl rfl rfl ?_ | refine r_gval rfl rfl rfl rfl True.intro ?_
    | refine t_true rfl ?_ | refine t_false rfl ?_
    | ((first | refine t_cond_d rfl (fun _ => ?_) (fun _ => ?_) | refine t_cond_i rfl (fun _ => ?_) (fun _ => ?_) | refine t_cond_j rfl (fun _ => ?_) (fun _ => ?_) | refine t_cond_s rfl (fun _ => ?_) (fun _ => ?_) | refine t_cond_n rfl (fun _ => ?_) (fun _ => ?_) | refine t_cond rfl (fun _ => ?_) (fun _ => ?_) | refine c_split_d rfl rfl (fun _ => ?_) (fun _ => ?_) | refine c_split_i rfl rfl (fun _ => ?_) (fun _ => ?_) | refine c_split_j rfl rfl (fun _ => ?_) (fun _ => ?_) | refine c_split_s rfl rfl (fun _ => ?_) (fun _ => ?_) | refine c_split_n rfl rfl (fun _ => ?_) (fun _ => ?_)) <;> try (first | contradiction | (exfalso; omega)))
    | refine r_val rfl rfl (by (first | omega | exact Nat.le_of_ble_eq_true rfl | (simp_all; done) | (simp_all; omega) | ((repeat' refine And.intro ?_ ?_) <;> first | omega | rfl | exact Nat.le_refl _ | exact Nat.le_of_ble_eq_true rfl | exact bytesF_one _ | (simp_all; done) | (simp_all; omega)))) ?_ | refine r_gval rfl rfl rfl rfl (by (first | omega | exact Nat.le_of_ble_eq_true rfl | (simp_all; done) | (simp_all; omega) | ((repeat' refine And.intro ?_ ?_) <;> first | omega | rfl | exact Nat.le_refl _ | exact Nat.le_of_ble_eq_true rfl | exact bytesF_one _ | (simp_all; done) | (simp_all; omega)))) ?_
    | refine r_obj rfl rfl (by (first | omega | exact Nat.le_of_ble_eq_true rfl | (simp_all; done) | (simp_all; omega) | ((repeat' refine And.intro ?_ ?_) <;> first | omega | rfl | exact Nat.le_refl _ | exact Nat.le_of_ble_eq_true rfl | exact bytesF_one _ | (simp_all; done) | (simp_all; omega)))) ?_ | refine r_sto rfl (by (first | omega | exact Nat.le_of_ble_eq_true rfl | (simp_all; done) | (simp_all; omega) | ((repeat' refine And.intro ?_ ?_) <;> first | omega | rfl | exact Nat.le_refl _ | exact Nat.le_of_ble_eq_true rfl | exact bytesF_one _ | (simp_all; done) | (simp_all; omega)))) ?_ | refine r_gobj rfl rfl rfl rfl (by (first | omega | exact Nat.le_of_ble_eq_true rfl | (simp_all; done) | (simp_all; omega) | ((repeat' refine And.intro ?_ ?_) <;> first | omega | rfl | exact Nat.le_refl _ | exact Nat.le_of_ble_eq_true rfl | exact bytesF_one _ | (simp_all; done) | (simp_all; omega)))) ?_
    | refine e_hit rfl ?_ | refine e_miss rfl ?_
    | refine ⟨by kernel_rfl, ?_⟩ | refine r_call (f := 28) rfl rfl Tryd.call28 rfl c1 ?_ | refine r_call (f := 29) rfl rfl Tryd.call29 rfl c2 ?_ | refine r_call (f := 29) rfl rfl Tryd.call29 rfl c4 ?_ | refine r_gcall (f := 30) rfl rfl rfl rfl Tryd.call30 rfl c3 ?_ | refine r_gcall (f := 30) rfl rfl rfl rfl Tryd.call30 rfl c6 ?_ | refine r_call (f := 31) rfl rfl Tryd.call31 rfl c7 ?_ | refine r_call (f := 31) rfl rfl Tryd.call31 rfl c8 ?_ | refine r_call (f := 31) rfl rfl Tryd.call31 rfl c9 ?_ | refine x_end rfl ?_ | refine n_end rfl ?_ | ((with_reducible refine c_grd ?_); (fail_if_success (refine c_lit true rfl rfl rfl ?_)); (fail_if_success (refine c_lit false rfl rfl rfl ?_)); refine c_split rfl rfl (fun _ => ?_) (fun _ => ?_)))
  all_goals
    clear c1 c2 c3 c4 c6 c7 c8 c9 hL hX
    refine congrArg D.tu (Eq.trans ?_ hR.symm)
    try simp only [show ((l.length : Int) = 2) = (l.length = 2) from propext (by omega), show ((l.length : Int) = 5) = (l.length = 5) from propext (by omega)] at *
    first | (simp_all [tileR, docR, noR, plZ, D.shut, nuI]; done) | trace_state

end Go.Proofs.YtghdgjabpdfaoaaDoor.Flow

/- LIBS: contracts of the library's functions (the kit's, laid at this seat), as Flow's. -/
namespace Go.Proofs.YtghdgjabpdfaoaaDoor.Flow
open Go

theorem two_of {vs : Array Value} (h : vs.size = 2) : vs = #[vs.getD 0 undef, vs.getD 1 undef] := by
  obtain ⟨l⟩ := vs
  match l, h with
  | [a, b], _ => rfl
theorem one_of {vs : Array Value} (h : vs.size = 1) : vs = #[vs.getD 0 undef] := by
  obtain ⟨l⟩ := vs
  match l, h with
  | [a], _ => rfl

theorem hist_below {w w' : World} {S : Cells} (hv : ∀ b o, S b o → b < w.heap.size) (hg : GOk S w) (h : RowKit.Below w.heap.size w w') : Hist { w0 := w, S0 := S, L := fun _ => False } w' S where
  os := h.os
  tape := h.tape
  output := h.output
  size := h.size
  block := fun k hk _ => h.block k hk
  sub := fun _ _ h => h
  cell := fun b o hb => by
    have := h.block b (hv b o hb)
    simp [World.cell?, this]
  new := fun _ _ h => .inl h
  valid := fun b o hb => Nat.lt_of_lt_of_le (hv b o hb) h.size
  glob := hg.mono (fun _ _ h => h) fun b o hb => by
    have := h.block b (hv b o hb)
    simp [World.cell?, this]

theorem below_grown (w : World) (k : Nat) (os : Array Obj) : RowKit.Below w.heap.size w (Sort.grow (w.drewN k) os) where
  os := rfl
  tape := rfl
  output := rfl
  size := by show w.heap.size ≤ (w.heap ++ os).size; rw [Array.size_append]; omega
  block := fun j hj => by
    show (w.heap ++ os)[j]? = w.heap[j]?
    rw [Array.getElem?_append_left hj]

end Go.Proofs.YtghdgjabpdfaoaaDoor.Flow

/- LIBS: numbers as texts, by the table of powers of ten. -/
namespace Go.Proofs.YtghdgjabpdfaoaaDoor.Flow
open Go

/-- The table of powers of ten lies as it is told. -/
theorem pow10_is {S : Cells} {w : World} (hg : GOk S w) : Lib.TabIs Tryd.prog w "internal/strconv.uint64pow10" .u64 Lib.pow10Tab := by
  have hn : Tryd.prog.globalNamed "internal/strconv.uint64pow10" = some 1 := by kernel_rfl
  have h1 := hg.rel 1
  have h2 := (hg.len 1 20 rfl).2
  have h3 : ∀ j, j < 20 → w.cell? ⟨1, j, none⟩ = some (.int .u64 (powZ j)) := by
    cases h1 with
    | rn _ _ _ _ _ _ h => exact fun j hj => (h j hj).2
  have h0 := h3 0 (by decide)
  unfold Lib.TabIs
  simp only [World.var?, hn, Option.bind_some]
  cases hh : w.heap[1]? with
  | none => simp [World.cell?, hh] at h0
  | some o =>
    cases o with
    | cells cs t fr =>
      simp only [Option.some.injEq]
      have h4 : ∀ j, j < 20 → cs[j]? = some (.int .u64 (powZ j)) := fun j hj => by
        have := h3 j hj
        simpa [World.cell?, hh] using this
      have h5 : cs[20]? = none := by simpa [World.cell?, hh] using h2
      apply Array.ext_getElem?
      intro j
      by_cases hj : j < 20
      · rw [h4 j hj]
        simp [Lib.pow10Tab, hj, powZ]
      · have : cs.size ≤ 20 := by simpa using h5
        rw [Array.getElem?_eq_none (by omega), Array.getElem?_eq_none (by simp [Lib.pow10Tab]; omega)]
    | _ => simp [World.cell?, hh] at h0

theorem itoa_ctr (n : Int) (h0 : -9223372036854775808 ≤ n) (h1 : n ≤ 9223372036854775807) : Ctr Tryd.prog 33 [.i .i64 n] (.s (Lib.itoa n)) := by
  intro w S vs hv hg hn hr
  have h := hr 0 (by simp)
  rw [one_of hn]
  generalize vs.getD 0 undef = v0 at *
  cases h
  refine (Tryd.strconv_Itoa n h0 h1 w (pow10_is hg)).mono ?_
  rintro e w' ⟨rfl, k, os, rfl⟩
  exact ⟨_, S, rfl, .s _ _, hist_below hv hg (below_grown w k os)⟩

end Go.Proofs.YtghdgjabpdfaoaaDoor.Flow
