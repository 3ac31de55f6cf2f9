/- CSV: CsvPlain's function. -/
import Derived.Test.YtejpliaomhpakaaC11
namespace Go.Proofs.Ytejpliaomhpakaa.Flow
open Go

/-- What is still to come of a row, its first k fields written. -/
def rowRest (l : List (List UInt8)) (k : Nat) : List UInt8 := if k = 0 then rowText l else tailText (l.drop k)

theorem drop_cons {α : Type} (d : α) (l : List α) (k : Nat) (h : k < l.length) : l.drop k = l.getD k d :: l.drop (k + 1) := by
  rw [List.drop_eq_getElem_cons h]
  simp [List.getD_eq_getElem?_getD, h]

theorem rowRest_zero (l : List (List UInt8)) (h : 0 < l.length) : rowRest l 0 = l.getD 0 [] ++ rowRest l 1 := by
  have := drop_cons [] l 0 h
  rw [List.drop_zero] at this
  unfold rowRest
  rw [if_pos rfl, if_neg (by omega)]
  conv => lhs; rw [this]
  rfl
theorem rowRest_succ (l : List (List UInt8)) (k : Nat) (h : k < l.length) (hk : 0 < k) : rowRest l k = [44] ++ (l.getD k [] ++ rowRest l (k + 1)) := by
  unfold rowRest
  rw [if_neg (by omega), if_neg (by omega), drop_cons [] l k h]
  rfl
theorem rowRest_end (l : List (List UInt8)) (k : Nat) (h : l.length ≤ k) : rowRest l k = [] := by
  unfold rowRest
  split
  · subst k
    have : l = [] := List.eq_nil_of_length_eq_zero (by omega)
    subst this
    rfl
  · rw [List.drop_eq_nil_of_le h]
    rfl

theorem tabText_drop (e le : List UInt8) (rows : List (List (List UInt8))) (i : Nat) (h : i < rows.length) :
    tabText e le (rows.drop i) = rowText (rows.getD i []) ++ ((if i + 1 < rows.length then e else le) ++ tabText e le (rows.drop (i + 1))) := by
  rw [drop_cons [] rows i h]
  by_cases h2 : i + 1 < rows.length
  · rw [if_pos h2, drop_cons [] rows (i + 1) h2]
    simp [tabText]
  · rw [if_neg h2, List.drop_eq_nil_of_le (by omega)]
    simp [tabText]

theorem plainB_of {f : List UInt8} {j : Int} (h1 : ¬ at' f j = 44) (h2 : ¬ at' f j = 34) (h3 : ¬ at' f j = 10) (h4 : ¬ at' f j = 13) : plainB (f.getD j.toNat 0) := by
  refine ⟨fun h => h1 ?_, fun h => h2 ?_, fun h => h3 ?_, fun h => h4 ?_⟩ <;> (unfold at'; rw [h]; rfl)

theorem plainT_of {f : List UInt8} (h : ∀ j, j < f.length → plainB (f.getD j 0)) : plainT f := fun c hc => by
  obtain ⟨i, hi, rfl⟩ := List.getElem_of_mem hc
  have := h i hi
  simpa [List.getD_eq_getElem?_getD, hi] using this

theorem plainB_lit {c : UInt8} (h : plainB c) : True := trivial

set_option maxHeartbeats 16000000 in
theorem plain_ctr (rows : List (List (List UInt8))) (r l : Bool) (hs : smallTab rows) (hT : rightTab rows → ∀ e le, isEnd e → (le = [] ∨ isEnd le) → (tabText e le rows).length ≤ 1048576) :
    Ctr Try.prog 7 [.sl 1 rows.length (tabF rows), .b r, .b l] (.b true) := by
  refine r_fun Try.func7 rfl Try.ntmps7 Try.results7 rfl rfl fun X hL hX => ?_
  have hs1 := hs.1
  have hs2 := hs.2
  have hsame := rsame_ctr rows rows (by omega) (by omega) (fun i => by have := (hs2 i).1; omega)
  rw [decide_eq_true rfl] at hsame
  have hmu := rmuch_ctr rows hs
  have hri := rright_ctr rows hs
  have hright : ∀ b, decide (rightTab rows) = b → b = true → rightTab rows := fun b h1 h2 => of_decide_eq_true (h1.trans h2)
  have hrd : ∃ b, decide (rightTab rows) = b := ⟨_, rfl⟩
  obtain ⟨rb, hrb⟩ := hrd
  rw [hrb] at hri
  generalize muchTab rows 0 0 = mb at hmu
  have hloop : rb = true → ∀ E le : List UInt8, isEnd E → (le = [] ∨ isEnd le) → le = (if l then E else []) → ∃ TT : List UInt8, TT.length ≤ 1048576 ∧ E.length ≤ 2 ∧ TT = tabText E le rows ∧ (∀ s : List UInt8, s = TT → (∀ j, j < rows.length → ∀ f ∈ rows.getD j [], plainT f) → Ctr Try.prog 32 [.s s] (parsed (rows, (s.length : Int), 0))) := by
    intro hrt E le hE hle _
    refine ⟨_, hT (hright rb hrb hrt) E le hE hle, ?_, rfl, fun s hs hp => ?_⟩
    · rcases hE with h | h <;> simp [h]
    · have hl := hT (hright rb hrb hrt) E le hE hle
      have hc := parse_ctr s (by rw [hs]; omega)
      rw [hs] at hc ⊢
      rwa [parseG_plain E le hE hle rows (hright rb hrb hrt) (fun x hx f hf => by
        obtain ⟨j, hj, rfl⟩ := List.getElem_of_mem hx
        refine hp j (by omega) f ?_
        simpa [List.getD_eq_getElem?_getD, hj] using hf) (by omega)] at hc
  clear hT hright hs
  repeat' (first
    | with_reducible refine t_seq ?_ | with_reducible refine t_region ?_ | with_reducible refine c_nil ?_ | with_reducible refine n_then ?_
    | with_reducible refine t_ret ?_ | with_reducible refine t_skip ?_ | with_reducible refine t_exit ?_ | with_reducible refine t_block ?_
    | with_reducible refine n_block ?_ | with_reducible refine e_then ?_ | with_reducible refine x_then ?_ | with_reducible refine x_block ?_ | with_reducible refine t_draw ?_
    | refine r_val rfl rfl True.intro ?_ | refine r_gskip rfl rfl rfl ?_ | refine r_gskip2 rfl rfl rfl ?_ | refine r_gval rfl rfl rfl rfl True.intro ?_
    | refine t_true rfl ?_ | refine t_false rfl ?_
    | ((first | refine t_cond_d rfl (fun _ => ?_) (fun _ => ?_) | refine t_cond_i rfl (fun _ => ?_) (fun _ => ?_) | refine t_cond_j rfl (fun _ => ?_) (fun _ => ?_) | refine t_cond_s rfl (fun _ => ?_) (fun _ => ?_) | refine t_cond_n rfl (fun _ => ?_) (fun _ => ?_) | refine t_cond rfl (fun _ => ?_) (fun _ => ?_) | refine c_split_d rfl rfl (fun _ => ?_) (fun _ => ?_) | refine c_split_i rfl rfl (fun _ => ?_) (fun _ => ?_) | refine c_split_j rfl rfl (fun _ => ?_) (fun _ => ?_) | refine c_split_s rfl rfl (fun _ => ?_) (fun _ => ?_) | refine c_split_n rfl rfl (fun _ => ?_) (fun _ => ?_)) <;> try (first | contradiction | (exfalso; omega)))
    | refine r_val rfl rfl (by first | omega | exact Nat.le_of_ble_eq_true rfl | (simp_all; done) | (simp_all; omega) | ((repeat' refine And.intro ?_ ?_) <;> first | omega | rfl | exact Nat.le_of_ble_eq_true rfl | exact bytesF_one _ | (simp_all; done) | (simp_all; omega))) ?_ | refine r_gval rfl rfl rfl rfl (by first | omega | exact Nat.le_of_ble_eq_true rfl | (simp_all; done) | (simp_all; omega) | ((repeat' refine And.intro ?_ ?_) <;> first | omega | rfl | exact Nat.le_of_ble_eq_true rfl | exact bytesF_one _ | (simp_all; done) | (simp_all; omega))) ?_
    | refine r_obj rfl rfl (by first | omega | exact Nat.le_of_ble_eq_true rfl | (simp_all; done) | (simp_all; omega) | ((repeat' refine And.intro ?_ ?_) <;> first | omega | rfl | exact Nat.le_of_ble_eq_true rfl | exact bytesF_one _ | (simp_all; done) | (simp_all; omega))) ?_ | refine r_sto rfl (by first | omega | exact Nat.le_of_ble_eq_true rfl | (simp_all; done) | (simp_all; omega) | ((repeat' refine And.intro ?_ ?_) <;> first | omega | rfl | exact Nat.le_of_ble_eq_true rfl | exact bytesF_one _ | (simp_all; done) | (simp_all; omega))) ?_ | refine r_gobj rfl rfl rfl rfl (by first | omega | exact Nat.le_of_ble_eq_true rfl | (simp_all; done) | (simp_all; omega) | ((repeat' refine And.intro ?_ ?_) <;> first | omega | rfl | exact Nat.le_of_ble_eq_true rfl | exact bytesF_one _ | (simp_all; done) | (simp_all; omega))) ?_
    | refine e_hit rfl ?_ | refine e_miss rfl ?_
    | refine ⟨by kernel_rfl, ?_⟩ | refine x_end rfl ?_ | refine n_end rfl ?_ | refine r_call rfl rfl Try.call36 rfl hmu ?_ | refine r_gcall rfl rfl rfl rfl Try.call37 rfl hri ?_ | refine r_call rfl rfl Try.call31 rfl live_ctr ?_ | ((with_reducible refine c_grd ?_); (fail_if_success (refine c_lit true rfl rfl rfl ?_)); (fail_if_success (refine c_lit false rfl rfl rfl ?_)); refine c_split rfl rfl (fun _ => ?_) (fun _ => ?_)))
  all_goals first
    | (with_reducible rfl)
    | skip
  all_goals
    obtain ⟨E, hEd, hE⟩ : ∃ E : List UInt8, (E = [13, 10] ∧ r = true ∨ E = [10] ∧ r = false) ∧ isEnd E := by
      first
        | exact ⟨[13, 10], .inl ⟨rfl, by assumption⟩, by simp [isEnd]⟩
        | exact ⟨[10], .inr ⟨rfl, by assumption⟩, by simp [isEnd]⟩
    obtain ⟨le, hle⟩ : ∃ le : List UInt8, le = (if l then E else []) := ⟨_, rfl⟩
    have hlee : le = [] ∨ isEnd le := by cases l <;> subst hle <;> simp [hE]
    obtain ⟨TT, hTl, hEl, hTT, hfin⟩ := hloop (by assumption) E le hE hlee hle
    clear hloop
    refine T.loop hL (fun x : Nat × List UInt8 => [(0, .sl 1 rows.length (tabF rows)), (2, .b l), (7, .s E), (8, .s x.2), (9, .i .i64 x.1)]) (fun _ => [])
      (fun x => x.1 ≤ rows.length ∧ x.2 ++ tabText E le (rows.drop x.1) = TT ∧ ∀ j, j < x.1 → ∀ f ∈ rows.getD j [], plainT f) (fun x => rows.length - x.1) (0, []) ⟨by simp, by rw [hTT]; rfl, by simp⟩
      ⟨⟨rfl, rfl, by rcases hEd with ⟨e1, e2⟩ | ⟨e1, e2⟩ <;> subst e1 <;> first | rfl | (exfalso; simp_all), rfl, rfl, trivial⟩, trivial, rfl, by rw [hX]; simp⟩ ?_
    clear hEd
    rintro ⟨i, s⟩ ⟨h1, h2, h3⟩
    dsimp only at h1 h2 h3 ⊢
    have hi := hs2 i
    have hsT : ¬ (i : Int) < rows.length → s = TT := fun h => by
      rw [← h2, List.drop_eq_nil_of_le (by omega)]
      simp [tabText]
    have hpar : ¬ (i : Int) < rows.length → Ctr Try.prog 32 [.s s] (parsed (rows, (s.length : Int), 0)) := fun h => hfin s (hsT h) (fun j hj => h3 j (by omega))
    clear hfin hTT
    repeat' (first
      | with_reducible refine t_seq ?_ | with_reducible refine t_region ?_ | with_reducible refine c_nil ?_ | with_reducible refine n_then ?_
      | with_reducible refine t_ret ?_ | with_reducible refine t_skip ?_ | with_reducible refine t_exit ?_ | with_reducible refine t_block ?_
      | with_reducible refine n_block ?_ | with_reducible refine e_then ?_ | with_reducible refine x_then ?_ | with_reducible refine x_block ?_ | with_reducible refine t_draw ?_
      | refine r_val rfl rfl True.intro ?_ | refine r_gskip rfl rfl rfl ?_ | refine r_gskip2 rfl rfl rfl ?_ | refine r_gval rfl rfl rfl rfl True.intro ?_
      | refine t_true rfl ?_ | refine t_false rfl ?_
      | ((first | refine t_cond_d rfl (fun _ => ?_) (fun _ => ?_) | refine t_cond_i rfl (fun _ => ?_) (fun _ => ?_) | refine t_cond_j rfl (fun _ => ?_) (fun _ => ?_) | refine t_cond_s rfl (fun _ => ?_) (fun _ => ?_) | refine t_cond_n rfl (fun _ => ?_) (fun _ => ?_) | refine t_cond rfl (fun _ => ?_) (fun _ => ?_) | refine c_split_d rfl rfl (fun _ => ?_) (fun _ => ?_) | refine c_split_i rfl rfl (fun _ => ?_) (fun _ => ?_) | refine c_split_j rfl rfl (fun _ => ?_) (fun _ => ?_) | refine c_split_s rfl rfl (fun _ => ?_) (fun _ => ?_) | refine c_split_n rfl rfl (fun _ => ?_) (fun _ => ?_)) <;> try (first | contradiction | (exfalso; omega)))
      | refine r_val rfl rfl (by first | omega | exact Nat.le_of_ble_eq_true rfl) ?_ | refine r_gval rfl rfl rfl rfl (by first | omega | exact Nat.le_of_ble_eq_true rfl) ?_
      | refine r_obj rfl rfl (by first | omega | exact Nat.le_of_ble_eq_true rfl) ?_ | refine r_sto rfl (by first | omega | exact Nat.le_of_ble_eq_true rfl) ?_ | refine r_gobj rfl rfl rfl rfl (by first | omega | exact Nat.le_of_ble_eq_true rfl) ?_
      | refine e_hit rfl ?_ | refine e_miss rfl ?_
      | refine ⟨by kernel_rfl, ?_⟩ | refine x_end rfl ?_ | refine n_end rfl ?_ | refine r_call rfl rfl Try.call32 rfl (hpar ‹_›) ?_ | refine r_call rfl rfl Try.call35 rfl (code_ctr 0) ?_ | refine r_gcall rfl rfl rfl rfl Try.call34 rfl hsame ?_ | refine r_gcall rfl rfl rfl rfl Try.call31 rfl live_ctr ?_ | ((with_reducible refine c_grd ?_); (fail_if_success (refine c_lit true rfl rfl rfl ?_)); (fail_if_success (refine c_lit false rfl rfl rfl ?_)); refine c_split rfl rfl (fun _ => ?_) (fun _ => ?_)))
    all_goals first
      | (with_reducible rfl)
      | skip
    obtain ⟨hi1, hi2⟩ := hi
    clear hsT hpar hmu hri hrb
    obtain ⟨R, hR⟩ : ∃ R, R = rows.getD i [] := ⟨_, rfl⟩
    obtain ⟨A, hA⟩ : ∃ A : List UInt8, A = (if i + 1 < rows.length then E else le) ++ tabText E le (rows.drop (i + 1)) := ⟨_, rfl⟩
    have hsum : s ++ (rowRest R 0 ++ A) = TT := by
      rw [← h2, tabText_drop E le rows i (by omega), hA, ← hR]
      rfl
    have hlen : ∀ (a b c : List UInt8), a ++ (b ++ c) = TT → a.length + (b.length + c.length) ≤ 1048576 := fun a b c h => by
      have := congrArg List.length h
      simp only [List.length_append] at this
      omega
    refine T.loop hL (fun x : Nat × List UInt8 => [(0, .sl 1 rows.length (tabF rows)), (2, .b l), (7, .s E), (8, .s x.2), (9, .i .i64 i), (10, .i .i64 x.1)]) (fun _ => [])
      (fun x => x.1 ≤ R.length ∧ x.2 ++ (rowRest R x.1 ++ A) = TT ∧ ∀ j, j < x.1 → plainT (R.getD j [])) (fun x => R.length - x.1) (0, s) ⟨by simp, hsum, by simp⟩
      ⟨⟨rfl, rfl, rfl, rfl, rfl, rfl, trivial⟩, trivial, rfl, by rw [hX]; simp⟩ ?_
    rintro ⟨k, s2⟩ ⟨g1, g2, g3⟩
    dsimp only at g1 g2 g3 ⊢
    have hs2l := hlen _ _ _ g2
    rw [hR] at g1
    repeat' (first
      | with_reducible refine t_seq ?_ | with_reducible refine t_region ?_ | with_reducible refine c_nil ?_ | with_reducible refine n_then ?_
      | with_reducible refine t_ret ?_ | with_reducible refine t_skip ?_ | with_reducible refine t_exit ?_ | with_reducible refine t_block ?_
      | with_reducible refine n_block ?_ | with_reducible refine e_then ?_ | with_reducible refine x_then ?_ | with_reducible refine x_block ?_ | with_reducible refine t_draw ?_
      | refine r_val rfl rfl True.intro ?_ | refine r_gskip rfl rfl rfl ?_ | refine r_gskip2 rfl rfl rfl ?_ | refine r_gval rfl rfl rfl rfl True.intro ?_
      | refine t_true rfl ?_ | refine t_false rfl ?_
      | ((first | refine t_cond_d rfl (fun _ => ?_) (fun _ => ?_) | refine t_cond_i rfl (fun _ => ?_) (fun _ => ?_) | refine t_cond_j rfl (fun _ => ?_) (fun _ => ?_) | refine t_cond_s rfl (fun _ => ?_) (fun _ => ?_) | refine t_cond_n rfl (fun _ => ?_) (fun _ => ?_) | refine t_cond rfl (fun _ => ?_) (fun _ => ?_) | refine c_split_d rfl rfl (fun _ => ?_) (fun _ => ?_) | refine c_split_i rfl rfl (fun _ => ?_) (fun _ => ?_) | refine c_split_j rfl rfl (fun _ => ?_) (fun _ => ?_) | refine c_split_s rfl rfl (fun _ => ?_) (fun _ => ?_) | refine c_split_n rfl rfl (fun _ => ?_) (fun _ => ?_)) <;> try (first | contradiction | (exfalso; omega)))
      | refine r_val rfl rfl (by first | omega | exact Nat.le_of_ble_eq_true rfl | (simp only [Int.toNat_natCast, List.length_append, List.length_cons, List.length_nil]; (repeat' refine And.intro ?_ ?_) <;> first | omega | rfl)) ?_ | refine r_gval rfl rfl rfl rfl (by first | omega | exact Nat.le_of_ble_eq_true rfl | (simp only [Int.toNat_natCast, List.length_append, List.length_cons, List.length_nil]; (repeat' refine And.intro ?_ ?_) <;> first | omega | rfl)) ?_
      | refine r_obj rfl rfl (by first | omega | exact Nat.le_of_ble_eq_true rfl | (simp only [Int.toNat_natCast, List.length_append, List.length_cons, List.length_nil]; (repeat' refine And.intro ?_ ?_) <;> first | omega | rfl)) ?_ | refine r_sto rfl (by first | omega | exact Nat.le_of_ble_eq_true rfl | (simp only [Int.toNat_natCast, List.length_append, List.length_cons, List.length_nil]; (repeat' refine And.intro ?_ ?_) <;> first | omega | rfl)) ?_ | refine r_gobj rfl rfl rfl rfl (by first | omega | exact Nat.le_of_ble_eq_true rfl | (simp only [Int.toNat_natCast, List.length_append, List.length_cons, List.length_nil]; (repeat' refine And.intro ?_ ?_) <;> first | omega | rfl)) ?_
      | refine e_hit rfl ?_ | refine e_miss rfl ?_
      | refine ⟨by kernel_rfl, ?_⟩ | refine x_end rfl ?_ | refine n_end rfl ?_ | ((with_reducible refine c_grd ?_); (fail_if_success (refine c_lit true rfl rfl rfl ?_)); (fail_if_success (refine c_lit false rfl rfl rfl ?_)); refine c_split rfl rfl (fun _ => ?_) (fun _ => ?_)))
    all_goals try simp only [Int.toNat_natCast] at *
    all_goals first
      | (have hk : R.length ≤ k := by rw [hR]; omega
         have hrr : rowRest R k = [] := rowRest_end R k hk
         have hnext : ∀ u, u = (if i + 1 < rows.length then E else le) → (s2 ++ u) ++ tabText E le (rows.drop (i + 1)) = TT := fun u hu => by
           subst hu
           rw [hrr, hA] at g2
           simpa [List.append_assoc] using g2
         have hpl : ∀ j, j < i + 1 → ∀ f ∈ rows.getD j [], plainT f := fun j hj f hf => by
           by_cases e : j = i
           · subst e
             rw [← hR] at hf
             obtain ⟨m, hm, rfl⟩ := List.getElem_of_mem hf
             have := g3 m (by omega)
             simpa [List.getD_eq_getElem?_getD, hm] using this
           · exact h3 j (by omega) f hf
         have hu1 : l = true → E = (if i + 1 < rows.length then E else le) := fun hl => by rw [hle, hl]; split <;> rfl
         have hu2 : (i : Int) + 1 < rows.length → E = (if i + 1 < rows.length then E else le) := fun h => by rw [if_pos (by omega)]
         have hu3 : l = false → ¬ (i : Int) + 1 < rows.length → [] = (if i + 1 < rows.length then E else le) := fun h1 h2 => by rw [if_neg (by omega), hle, h1]; rfl
         first
           | exact ⟨(i + 1, s2 ++ E), ⟨by dsimp only; omega, hnext E (hu1 (by assumption)), hpl⟩, by dsimp only; omega, ⟨rfl, rfl, rfl, rfl, rfl, trivial⟩, trivial, rfl, by rw [hX]; simp⟩
           | exact ⟨(i + 1, s2 ++ E), ⟨by dsimp only; omega, hnext E (hu2 (by assumption)), hpl⟩, by dsimp only; omega, ⟨rfl, rfl, rfl, rfl, rfl, trivial⟩, trivial, rfl, by rw [hX]; simp⟩
           | exact ⟨(i + 1, s2), ⟨by dsimp only; omega, (List.append_nil s2 ▸ hnext [] (hu3 (by assumption) (by assumption)) : _), hpl⟩, by dsimp only; omega, ⟨rfl, rfl, rfl, rfl, rfl, trivial⟩, trivial, rfl, by rw [hX]; simp⟩
         done)
      | skip
    all_goals
      obtain ⟨F, hF⟩ : ∃ F, F = R.getD k [] := ⟨_, rfl⟩
      have hFl : F.length ≤ 1048576 := by rw [hF, hR]; exact hi2 k
      have hkR : k < R.length := by rw [hR]; omega
      have hRl : R.length ≤ 1048576 := by rw [hR]; exact hi1
      have hgo : ∀ s3 : List UInt8, s3 = (if k = 0 then s2 ++ F else s2 ++ [44] ++ F) → (∀ j, j < F.length → plainB (F.getD j 0)) → k + 1 ≤ R.length ∧ s3 ++ (rowRest R (k + 1) ++ A) = TT ∧ ∀ j, j < k + 1 → plainT (R.getD j []) := fun s3 h hp => by
        refine ⟨by omega, ?_, fun j hj => ?_⟩
        · subst h
          by_cases e : k = 0
          · rw [if_pos e]
            subst e
            rw [rowRest_zero R (by omega), ← hF] at g2
            simpa [List.append_assoc] using g2
          · rw [if_neg e]
            rw [rowRest_succ R k hkR (by omega), ← hF] at g2
            simpa [List.append_assoc] using g2
        · by_cases e : j = k
          · subst e
            rw [← hF]
            exact plainT_of hp
          · exact g3 j (by omega)
      have hsl2 : s2.length + 1 + F.length ≤ 2097153 := by omega
      refine T.loop hL (fun m : Nat => [(0, .sl 1 rows.length (tabF rows)), (2, .b l), (7, .s E), (8, .s s2), (9, .i .i64 i), (10, .i .i64 k), (11, .s F), (12, .i .i64 m)]) (fun _ => [])
        (fun m => m ≤ F.length ∧ ∀ j, j < m → plainB (F.getD j 0)) (fun m => F.length - m) 0 ⟨by omega, by simp⟩
        ⟨⟨rfl, rfl, rfl, rfl, rfl, rfl, by rw [hF, hR]; rfl, rfl, trivial⟩, trivial, rfl, by rw [hX]; simp⟩ ?_
      rintro m ⟨f1, f2⟩
      try dsimp only at f1 f2 ⊢
      clear h2 hsum hlen hA g2 hR hi1 hi2 hF hs2
      repeat' (first
        | with_reducible refine t_seq ?_ | with_reducible refine t_region ?_ | with_reducible refine c_nil ?_ | with_reducible refine n_then ?_
        | with_reducible refine t_ret ?_ | with_reducible refine t_skip ?_ | with_reducible refine t_exit ?_ | with_reducible refine t_block ?_
        | with_reducible refine n_block ?_ | with_reducible refine e_then ?_ | with_reducible refine x_then ?_ | with_reducible refine x_block ?_ | with_reducible refine t_draw ?_
        | refine r_val rfl rfl True.intro ?_ | refine r_gskip rfl rfl rfl ?_ | refine r_gskip2 rfl rfl rfl ?_ | refine r_gval rfl rfl rfl rfl True.intro ?_
        | refine t_true rfl ?_ | refine t_false rfl ?_
        | ((first | refine t_cond_d rfl (fun _ => ?_) (fun _ => ?_) | refine t_cond_i rfl (fun _ => ?_) (fun _ => ?_) | refine t_cond_j rfl (fun _ => ?_) (fun _ => ?_) | refine t_cond_s rfl (fun _ => ?_) (fun _ => ?_) | refine t_cond_n rfl (fun _ => ?_) (fun _ => ?_) | refine t_cond rfl (fun _ => ?_) (fun _ => ?_) | refine c_split_d rfl rfl (fun _ => ?_) (fun _ => ?_) | refine c_split_i rfl rfl (fun _ => ?_) (fun _ => ?_) | refine c_split_j rfl rfl (fun _ => ?_) (fun _ => ?_) | refine c_split_s rfl rfl (fun _ => ?_) (fun _ => ?_) | refine c_split_n rfl rfl (fun _ => ?_) (fun _ => ?_)) <;> try (first | contradiction | (exfalso; omega)))
        | refine r_val rfl rfl (by first | omega | exact Nat.le_of_ble_eq_true rfl | (simp only [Int.toNat_natCast, List.length_append, List.length_cons, List.length_nil]; (repeat' refine And.intro ?_ ?_) <;> first | omega | rfl)) ?_ | refine r_gval rfl rfl rfl rfl (by first | omega | exact Nat.le_of_ble_eq_true rfl | (simp only [Int.toNat_natCast, List.length_append, List.length_cons, List.length_nil]; (repeat' refine And.intro ?_ ?_) <;> first | omega | rfl)) ?_
        | refine r_obj rfl rfl (by first | omega | exact Nat.le_of_ble_eq_true rfl | (simp only [Int.toNat_natCast, List.length_append, List.length_cons, List.length_nil]; (repeat' refine And.intro ?_ ?_) <;> first | omega | rfl)) ?_ | refine r_sto rfl (by first | omega | exact Nat.le_of_ble_eq_true rfl | (simp only [Int.toNat_natCast, List.length_append, List.length_cons, List.length_nil]; (repeat' refine And.intro ?_ ?_) <;> first | omega | rfl)) ?_ | refine r_gobj rfl rfl rfl rfl (by first | omega | exact Nat.le_of_ble_eq_true rfl | (simp only [Int.toNat_natCast, List.length_append, List.length_cons, List.length_nil]; (repeat' refine And.intro ?_ ?_) <;> first | omega | rfl)) ?_
        | refine e_hit rfl ?_ | refine e_miss rfl ?_
        | refine ⟨by kernel_rfl, ?_⟩ | refine x_end rfl ?_ | refine n_end rfl ?_ | refine r_call rfl rfl Try.call31 rfl live_ctr ?_ | ((with_reducible refine c_grd ?_); (fail_if_success (refine c_lit true rfl rfl rfl ?_)); (fail_if_success (refine c_lit false rfl rfl rfl ?_)); refine c_split rfl rfl (fun _ => ?_) (fun _ => ?_)))
      all_goals try simp only [Int.toNat_natCast] at *
      all_goals first
        | (with_reducible rfl)
        | (exact ⟨m + 1, ⟨by omega, fun j hj => by
            by_cases e : j = m
            · subst e
              have := plainB_of (f := F) (j := (j : Int)) (by assumption) (by assumption) (by assumption) (by assumption)
              simpa using this
            · exact f2 j (by omega)⟩, by omega, ⟨rfl, rfl, rfl, rfl, rfl, rfl, rfl, rfl, trivial⟩, trivial, rfl, by rw [hX]; simp⟩)
        | skip
      all_goals
        have hFm : ∀ j, j < F.length → plainB (F.getD j 0) := fun j hj => f2 j (by omega)
        first
          | exact ⟨(k + 1, s2 ++ [44] ++ F), hgo _ (by rw [if_neg (by omega)]) hFm, by dsimp only; omega, ⟨rfl, rfl, rfl, rfl, rfl, rfl, trivial⟩, trivial, rfl, by rw [hX]; simp⟩
          | exact ⟨(k + 1, s2 ++ F), hgo _ (by rw [if_pos (by omega)]) hFm, by dsimp only; omega, ⟨rfl, rfl, rfl, rfl, rfl, rfl, trivial⟩, trivial, rfl, by rw [hX]; simp⟩

end Go.Proofs.Ytejpliaomhpakaa.Flow
