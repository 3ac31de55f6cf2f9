/- The texts Yg, W5, Yh, FlowQ, FlowR, AO, LaidW, one behind the other. -/
import Derived.Test.YtghdgjabpdfaoaaDoorP3
import Derived.Test.YtghdgjabpdfaoaaDoorP6
import Derived.Test.YtghdgjabpdfaoaaDoorP10
import Derived.Test.YtghdgjabpdfaoaaDoorRows
import Derived.ProofKit
import Derived.OpenShut
import Derived.JoinedCond
import Derived.LaidLaws
import Derived.MakeChecks
import Derived.Lay
import Derived.Shelf.LaysM
/- REQ: the document's: Parse. -/
namespace Go.Proofs.YtghdgjabpdfaoaaDoor.Flow
open Go

/-- A line's header, by places. -/
theorem hdr_eq (s : List UInt8) : hdrP s = if fndN 58 s < s.length ∧ tokB (s.take (fndN 58 s)) = true ∧ (s.drop (fndN 58 s + 1)).all vaC = true then (smallL (s.take (fndN 58 s)), Lib.trimS (s.drop (fndN 58 s + 1)) bl, true) else ([], [], false) := by
  unfold hdrP
  rw [cut_one]
  by_cases h : fndN 58 s < s.length
  · rw [if_pos h]
    dsimp only
    by_cases h2 : tokB (s.take (fndN 58 s)) = true ∧ (s.drop (fndN 58 s + 1)).all vaC = true
    · rw [if_pos ⟨rfl, h2⟩, if_pos ⟨h, h2⟩]
    · rw [if_neg (fun q => h2 q.2), if_neg (fun q => h2 q.2)]
  · rw [if_neg h]
    dsimp only
    rw [if_neg (fun q => Bool.noConfusion q.1), if_neg (fun q => h q.1)]

/-- No header so far that may not be. -/
def okSoFar (L : Hv) : Prop := ¬ [] ∈ vof hostK L ∧ (∀ v ∈ vof clenK L, v = [48]) ∧ vof tencK L = []
theorem good_iff (L : Hv) : goodL L ↔ okSoFar L ∧ (vof hostK L).length = 1 ∧ (vof clenK L).length ≤ 1 := by
  unfold goodL okSoFar
  constructor
  · rintro ⟨a, b, c, d, e⟩
    exact ⟨⟨b, c, e⟩, a, d⟩
  · rintro ⟨⟨b, c, e⟩, a, d⟩
    exact ⟨a, b, c, d, e⟩
def badH (p : List UInt8 × List UInt8) : Prop := p.1 = tencK ∨ (p.1 = clenK ∧ ¬ p.2 = [48]) ∨ (p.1 = hostK ∧ p.2 = [])
theorem bad_good {L M : Hv} {p : List UInt8 × List UInt8} (h : badH p) : ¬ goodL (L ++ p :: M) := by
  rintro ⟨_, b, c, _, e⟩
  rw [vof_app, vof_cons] at b c e
  rcases h with h | h | h
  · rw [if_pos h] at e
    exact absurd e (by simp)
  · rw [if_pos h.1] at c
    exact h.2 (c p.2 (by simp))
  · rw [if_pos h.1] at b
    exact b (by simp [h.2])
theorem ok_add {L : Hv} {p : List UInt8 × List UInt8} (hL : okSoFar L) (h : ¬ badH p) : okSoFar (L ++ [p]) := by
  obtain ⟨b, c, e⟩ := hL
  unfold okSoFar
  simp only [vof_app, vof_cons]
  refine ⟨?_, ?_, ?_⟩
  · by_cases q : p.1 = hostK
    · rw [if_pos q]
      intro hm
      rcases List.mem_append.1 hm with hm | hm
      · exact b hm
      · simp [vof] at hm
        exact h (.inr (.inr ⟨q, hm⟩))
    · rw [if_neg q]
      simpa [vof] using b
  · by_cases q : p.1 = clenK
    · rw [if_pos q]
      intro v hm
      rcases List.mem_append.1 hm with hm | hm
      · exact c v hm
      · simp [vof] at hm
        subst hm
        by_cases h2 : p.2 = [48]
        · exact h2
        · exact absurd (.inr (.inl ⟨q, h2⟩)) h
    · rw [if_neg q]
      simpa [vof] using c
  · by_cases q : p.1 = tencK
    · exact absurd (.inl q) h
    · rw [if_neg q]
      simpa [vof] using e
theorem vof_one (k : List UInt8) (L : Hv) (p : List UInt8 × List UInt8) : vof k (L ++ [p]) = if p.1 = k then vof k L ++ [p.2] else vof k L := by
  rw [vof_app, vof_cons]
  by_cases h : p.1 = k
  · rw [if_pos h, if_pos h]
    rfl
  · rw [if_neg h, if_neg h]
    simp [vof]
theorem hdvs_at {l : List (List UInt8)} {i : Nat} (h : i < l.length) : hdvs (l.drop i) = if (hdrP (l.getD i [])).2.2 = true then (hdvs (l.drop (i + 1))).map (((hdrP (l.getD i [])).1, (hdrP (l.getD i [])).2.1) :: ·) else none := by
  rw [List.drop_eq_getElem_cons h]
  have : l[i] = l.getD i [] := by simp [List.getD_eq_getElem?_getD, h]
  rw [this]
  rfl
/-- What is left to be said once so many headers have been read. -/
def restR (mt tg : List UInt8) (L : Hv) (o : Option Hv) : Option Rq := match o with
  | some M => if goodL (L ++ M) then some (ansR mt tg (L ++ M)) else none
  | none => none
theorem rest_bad {mt tg : List UInt8} {L : Hv} {o : Option Hv} {p : List UInt8 × List UInt8} (h : badH p) : restR mt tg L (o.map (p :: ·)) = none := by
  cases o with
  | none => rfl
  | some M => exact if_neg (bad_good h)
theorem rest_next {mt tg : List UInt8} {L : Hv} {o : Option Hv} {p : List UInt8 × List UInt8} : restR mt tg L (o.map (p :: ·)) = restR mt tg (L ++ [p]) o := by
  cases o with
  | none => rfl
  | some M =>
    show (if goodL (L ++ p :: M) then some (ansR mt tg (L ++ p :: M)) else none) = if goodL (L ++ [p] ++ M) then some (ansR mt tg (L ++ [p] ++ M)) else none
    rw [List.append_assoc]
    rfl
theorem vof_len (k : List UInt8) (L : Hv) : (vof k L).length ≤ L.length := by
  unfold vof
  rw [List.length_map]
  exact List.length_filter_le _ _
theorem vof_mem {k v : List UInt8} {L : Hv} (h : v ∈ vof k L) : ∃ p ∈ L, p.2 = v := by
  unfold vof at h
  obtain ⟨p, h1, h2⟩ := List.mem_map.1 h
  exact ⟨p, (List.mem_filter.1 h1).1, h2⟩
theorem getD_len {n : Nat} {l : List (List UInt8)} (h : ∀ v ∈ l, v.length ≤ n) (i : Nat) : (l.getD i []).length ≤ n := by
  by_cases hi : i < l.length
  · rw [List.getD_eq_getElem?_getD, List.getElem?_eq_getElem hi, Option.getD_some]
    exact h _ (List.getElem_mem hi)
  · rw [List.getD_eq_getElem?_getD, List.getElem?_eq_none (by omega)]
    exact Nat.zero_le _
/-- Lines are no longer than the bytes. -/
theorem linR_len : ∀ (n : Nat) (b : List UInt8) (l : List (List UInt8)) (s : List UInt8) (m : Nat), b.length ≤ n → s.length + b.length ≤ m → (∀ v ∈ l, v.length ≤ m) → (linR l s b).1.length ≤ l.length + b.length ∧ ∀ v ∈ (linR l s b).1, v.length ≤ m
  | _, [], l, s, m, _, _, _ => by
    rw [linR_nil]
    exact ⟨Nat.zero_le _, fun v h => by cases h⟩
  | 0, c :: r, l, s, m, h, _, _ => by simp at h
  | n + 1, c :: r, l, s, m, h, hm, hl => by
    simp at h hm
    by_cases hc : c = 13 ∧ r.getD 0 0 = 10
    · rw [linR_hit hc]
      by_cases h1 : s = [] ∧ ¬ l = []
      · rw [if_pos h1]
        exact ⟨Nat.le_add_right _ _, hl⟩
      · rw [if_neg h1]
        have ih := linR_len n (r.drop 1) (l ++ [s]) [] m (by rw [List.length_drop]; omega) (by rw [List.length_drop]; simp; omega) (fun v hv => by
          rcases List.mem_append.1 hv with hv | hv
          · exact hl v hv
          · simp at hv
            subst hv
            omega)
        rw [List.length_drop, List.length_append] at ih
        refine ⟨Nat.le_trans ih.1 ?_, ih.2⟩
        simp
        omega
    · by_cases h2 : c = 13 ∨ c = 10
      · rw [linR_bad hc h2]
        exact ⟨Nat.zero_le _, fun v h => by cases h⟩
      · rw [linR_go h2]
        have ih := linR_len n r l (s ++ [c]) m h (by simp; omega) hl
        refine ⟨Nat.le_trans ih.1 ?_, ih.2⟩
        simp
theorem linR_some : ∀ (n : Nat) (b : List UInt8) (l : List (List UInt8)) (s : List UInt8), b.length ≤ n → (linR l s b).2 = true → ¬ (linR l s b).1 = []
  | _, [], l, s, _, h => by
    rw [linR_nil] at h
    cases h
  | 0, c :: r, l, s, h, _ => by simp at h
  | n + 1, c :: r, l, s, h, hh => by
    simp at h
    by_cases hc : c = 13 ∧ r.getD 0 0 = 10
    · rw [linR_hit hc] at hh ⊢
      by_cases h1 : s = [] ∧ ¬ l = []
      · rw [if_pos h1]
        exact h1.2
      · rw [if_neg h1] at hh ⊢
        exact linR_some n _ _ _ (by rw [List.length_drop]; omega) hh
    · by_cases h2 : c = 13 ∨ c = 10
      · rw [linR_bad hc h2] at hh
        cases hh
      · rw [linR_go h2] at hh ⊢
        exact linR_some n r _ _ h hh

set_option maxRecDepth 100000 in
set_option maxHeartbeats 8000000 in
theorem rparse_ctr (b : List UInt8) (hb : b.length ≤ 2000) : Ctr Tryd.prog 20 [.sl 1 b.length (bytesF b)] (rqD (parR b)) := by
  have c1 := rlines_ctr b (by omega)
  have hlen := linR_len _ b [] [] b.length (Nat.le_refl _) (by simp) (fun v h => by cases h)
  have hsome := linR_some _ b [] [] (Nat.le_refl _)
  have e : parR b = if (linR [] [] b).2 = true then (if (firP ((linR [] [] b).1.getD 0 [])).2.2 = true then restR (firP ((linR [] [] b).1.getD 0 [])).1 (firP ((linR [] [] b).1.getD 0 [])).2.1 [] (hdvs ((linR [] [] b).1.drop 1)) else none) else none := by
    unfold parR restR
    by_cases h : (linR [] [] b).2 = true
    · rw [if_pos ⟨h, by omega⟩, if_pos h]
      rfl
    · rw [if_neg (fun q => h q.1), if_neg h]
  rw [e]
  clear e
  generalize linR [] [] b = LR at *
  obtain ⟨l, ok⟩ := LR
  dsimp only at hlen hsome ⊢
  obtain ⟨hl1, hl2⟩ := hlen
  have hl3 := fun i => getD_len hl2 i
  simp only [List.length_nil, Nat.zero_add] at hl1
  refine r_fun Tryd.func20 rfl Tryd.ntmps20 Tryd.results20 rfl (by unfold rqD; split <;> rfl) fun X hL hX => ?_
  cases ok with
  | false =>
    repeat' (first
      | refine r_call (f := 46) rfl rfl Tryd.call46 rfl c1 ?_
      | with_reducible (first | refine t_seq ?_ | refine t_region ?_ | refine c_nil ?_ | refine n_then ?_ | refine t_ret ?_ | refine t_skip ?_ | refine t_exit ?_ | refine t_block ?_ | refine n_block ?_ | refine e_then ?_ | refine x_then ?_ | refine x_block ?_ | refine t_draw ?_)
      | refine r_val rfl rfl True.intro ?_ | refine r_gskip rfl rfl rfl ?_ | refine r_gskip2 rfl rfl rfl ?_ | refine r_gval rfl rfl rfl rfl True.intro ?_
      | refine t_true rfl ?_ | refine t_false rfl ?_
      | ((first | refine t_cond_d rfl ?_ ?_ | refine t_cond_i rfl ?_ ?_ | refine t_cond_j rfl ?_ ?_ | refine t_cond_s rfl ?_ ?_ | refine t_cond_n rfl ?_ ?_ | refine t_cond rfl ?_ ?_ | refine c_split_d rfl rfl ?_ ?_ | refine c_split_i rfl rfl ?_ ?_ | refine c_split_j rfl rfl ?_ ?_ | refine c_split_s rfl rfl ?_ ?_ | refine c_split_n rfl rfl ?_ ?_) <;> intro <;> try (first | (rename_i hz; exact Bool.noConfusion (show true = false from hz)) | (rename_i hz; exact Bool.noConfusion (show false = true from hz)) | (exfalso; omega)))
      | ((first | refine r_val rfl rfl ?_ ?_ | refine r_gval rfl rfl rfl rfl ?_ ?_ | refine r_obj rfl rfl ?_ ?_ | refine r_sto rfl ?_ ?_ | refine r_gobj rfl rfl rfl rfl ?_ ?_); focus (first | omega | exact Nat.le_of_ble_eq_true rfl | (simp only [wrap_u8, IntKind.wrap_i64, IntKind.wrap_i32, wrap_u32', wrap_u64', InI]; (repeat' refine And.intro ?_ ?_) <;> omega) | ((repeat' refine And.intro ?_ ?_) <;> first | omega | rfl | exact Nat.le_refl _ | exact Nat.le_of_ble_eq_true rfl | exact bytesF_one _) | (simp_all; done) | (simp_all; omega)))
      | refine e_hit rfl ?_ | refine e_miss rfl ?_
      | with_reducible refine ⟨by kernel_rfl, ?_⟩ | refine x_end rfl ?_ | refine n_end rfl ?_ | ((with_reducible refine c_grd ?_); (fail_if_success (refine c_lit true rfl rfl rfl ?_)); (fail_if_success (refine c_lit false rfl rfl rfl ?_)); refine c_split rfl rfl (fun _ => ?_) (fun _ => ?_)))
    all_goals rfl
  | true =>
    have hl0 : 0 < l.length := List.length_pos_iff.2 (hsome rfl)
    have c2 := rfirst_ctr (l.getD 0 []) (by have := hl3 0; omega)
    have f1 := fir_len (l.getD 0 [])
    have f2 := hl3 0
    generalize firP (l.getD 0 []) = F at *
    obtain ⟨mt, tg, ok⟩ := F
    dsimp only at f1 ⊢
    cases ok with
    | false =>
      repeat' (first
        | refine r_call (f := 46) rfl rfl Tryd.call46 rfl c1 ?_ | refine r_call (f := 47) rfl rfl Tryd.call47 rfl c2 ?_
        | with_reducible (first | refine t_seq ?_ | refine t_region ?_ | refine c_nil ?_ | refine n_then ?_ | refine t_ret ?_ | refine t_skip ?_ | refine t_exit ?_ | refine t_block ?_ | refine n_block ?_ | refine e_then ?_ | refine x_then ?_ | refine x_block ?_ | refine t_draw ?_)
        | refine r_val rfl rfl True.intro ?_ | refine r_gskip rfl rfl rfl ?_ | refine r_gskip2 rfl rfl rfl ?_ | refine r_gval rfl rfl rfl rfl True.intro ?_
        | refine t_true rfl ?_ | refine t_false rfl ?_
        | ((first | refine t_cond_d rfl ?_ ?_ | refine t_cond_i rfl ?_ ?_ | refine t_cond_j rfl ?_ ?_ | refine t_cond_s rfl ?_ ?_ | refine t_cond_n rfl ?_ ?_ | refine t_cond rfl ?_ ?_ | refine c_split_d rfl rfl ?_ ?_ | refine c_split_i rfl rfl ?_ ?_ | refine c_split_j rfl rfl ?_ ?_ | refine c_split_s rfl rfl ?_ ?_ | refine c_split_n rfl rfl ?_ ?_) <;> intro <;> try (first | (rename_i hz; exact Bool.noConfusion (show true = false from hz)) | (rename_i hz; exact Bool.noConfusion (show false = true from hz)) | (exfalso; omega)))
        | ((first | refine r_val rfl rfl ?_ ?_ | refine r_gval rfl rfl rfl rfl ?_ ?_ | refine r_obj rfl rfl ?_ ?_ | refine r_sto rfl ?_ ?_ | refine r_gobj rfl rfl rfl rfl ?_ ?_); focus (first | omega | exact Nat.le_of_ble_eq_true rfl | (simp only [wrap_u8, IntKind.wrap_i64, IntKind.wrap_i32, wrap_u32', wrap_u64', InI]; (repeat' refine And.intro ?_ ?_) <;> omega) | ((repeat' refine And.intro ?_ ?_) <;> first | omega | rfl | exact Nat.le_refl _ | exact Nat.le_of_ble_eq_true rfl | exact bytesF_one _) | (simp_all; done) | (simp_all; omega)))
        | refine e_hit rfl ?_ | refine e_miss rfl ?_
        | with_reducible refine ⟨by kernel_rfl, ?_⟩ | refine x_end rfl ?_ | refine n_end rfl ?_ | ((with_reducible refine c_grd ?_); (fail_if_success (refine c_lit true rfl rfl rfl ?_)); (fail_if_success (refine c_lit false rfl rfl rfl ?_)); refine c_split rfl rfl (fun _ => ?_) (fun _ => ?_)))
      all_goals rfl
    | true =>
      repeat' (first
        | refine r_call (f := 46) rfl rfl Tryd.call46 rfl c1 ?_ | refine r_call (f := 47) rfl rfl Tryd.call47 rfl c2 ?_
        | with_reducible (first | refine t_seq ?_ | refine t_region ?_ | refine c_nil ?_ | refine n_then ?_ | refine t_ret ?_ | refine t_skip ?_ | refine t_exit ?_ | refine t_block ?_ | refine n_block ?_ | refine e_then ?_ | refine x_then ?_ | refine x_block ?_ | refine t_draw ?_)
        | refine r_val rfl rfl True.intro ?_ | refine r_gskip rfl rfl rfl ?_ | refine r_gskip2 rfl rfl rfl ?_ | refine r_gval rfl rfl rfl rfl True.intro ?_
        | refine t_true rfl ?_ | refine t_false rfl ?_
        | ((first | refine t_cond_d rfl ?_ ?_ | refine t_cond_i rfl ?_ ?_ | refine t_cond_j rfl ?_ ?_ | refine t_cond_s rfl ?_ ?_ | refine t_cond_n rfl ?_ ?_ | refine t_cond rfl ?_ ?_ | refine c_split_d rfl rfl ?_ ?_ | refine c_split_i rfl rfl ?_ ?_ | refine c_split_j rfl rfl ?_ ?_ | refine c_split_s rfl rfl ?_ ?_ | refine c_split_n rfl rfl ?_ ?_) <;> intro <;> try (first | (rename_i hz; exact Bool.noConfusion (show true = false from hz)) | (rename_i hz; exact Bool.noConfusion (show false = true from hz)) | (exfalso; omega)))
        | ((first | refine r_val rfl rfl ?_ ?_ | refine r_gval rfl rfl rfl rfl ?_ ?_ | refine r_obj rfl rfl ?_ ?_ | refine r_sto rfl ?_ ?_ | refine r_gobj rfl rfl rfl rfl ?_ ?_); focus (first | omega | exact Nat.le_of_ble_eq_true rfl | (simp only [wrap_u8, IntKind.wrap_i64, IntKind.wrap_i32, wrap_u32', wrap_u64', InI]; (repeat' refine And.intro ?_ ?_) <;> omega) | ((repeat' refine And.intro ?_ ?_) <;> first | omega | rfl | exact Nat.le_refl _ | exact Nat.le_of_ble_eq_true rfl | exact bytesF_one _) | (simp_all; done) | (simp_all; omega)))
        | refine e_hit rfl ?_ | refine e_miss rfl ?_
        | with_reducible refine ⟨by kernel_rfl, ?_⟩ | refine x_end rfl ?_ | refine n_end rfl ?_ | ((with_reducible refine c_grd ?_); (fail_if_success (refine c_lit true rfl rfl rfl ?_)); (fail_if_success (refine c_lit false rfl rfl rfl ?_)); refine c_split rfl rfl (fun _ => ?_) (fun _ => ?_)))
      rw [if_pos rfl, if_pos rfl]
      refine T.adopt 11 11 9 1 (wxF []) rfl rfl ?_
      refine T.adopt 12 12 9 1 (wxF []) rfl rfl ?_
      refine T.loop hL (fun x : Nat × Hv => [(2, .pv 2 0), (4, .sl 1 l.length (wxF l)), (6, .s mt), (7, .s tg), (9, .i .i64 (vof hostK x.2).length), (10, .i .i64 (vof clenK x.2).length), (11, .gs 11 1 (vof aceK x.2).length (wxF (vof aceK x.2))), (12, .gs 12 1 (vof inmK x.2).length (wxF (vof inmK x.2))), (13, .i .i64 (1 + x.1 : Nat))])
        (fun x => [(2, .var rq0), (11, .row 9 1 (vof aceK x.2).length), (12, .row 9 1 (vof inmK x.2).length)])
        (fun x => 1 + x.1 ≤ l.length ∧ restR mt tg [] (hdvs (l.drop 1)) = restR mt tg x.2 (hdvs (l.drop (1 + x.1))) ∧ okSoFar x.2 ∧ x.2.length ≤ x.1 ∧ ∀ p ∈ x.2, p.2.length ≤ 2000) (fun x => l.length - x.1) (0, []) ⟨hl0, rfl, ⟨by simp [vof], by simp [vof], rfl⟩, Nat.le_refl _, fun _ h => absurd h (by simp)⟩
        ⟨⟨rfl, rfl, rfl, rfl, rfl, rfl, rfl, rfl, rfl, trivial⟩, ⟨rfl, rfl, rfl, trivial⟩, rfl, fun q hq => by rw [hX] at hq; simp at hq⟩ ?_
      rintro ⟨i, L⟩ ⟨hi, hgo, hok, hn, hmem⟩
      dsimp only at hi hgo hok hn hmem ⊢
      rw [hgo]
      have v1 := vof_len hostK L
      have v2 := vof_len clenK L
      have v3 := vof_len aceK L
      have v4 := vof_len inmK L
      by_cases hil : 1 + i < l.length
      · rw [hdvs_at hil]
        have hraw : (l.getD ((1 + i : Nat) : Int).toNat []) = l.getD (1 + i) [] := rfl
        have hs := hl3 (1 + i)
        have hH := hdr_eq (l.getD (1 + i) [])
        have hvl := hdr_len (l.getD (1 + i) [])
        have hraw2 : (l.getD ((1 + i : Nat) : Int).toNat []).length = (l.getD (1 + i) []).length := rfl
        have d1 := find_ctr (l.getD ((1 + i : Nat) : Int).toNat []) 0 58 (by omega) (Nat.zero_le _)
        rw [List.drop_zero, Nat.zero_add, hraw] at d1
        have hk := fndN_le 58 (l.getD (1 + i) [])
        generalize hdrP (l.getD (1 + i) []) = H at *
        generalize fndN 58 (l.getD (1 + i) []) = k at *
        have d2 := rtoken_ctr ((l.getD (1 + i) []).take k) (by rw [List.length_take]; omega)
        have d3 := rsmall_ctr ((l.getD (1 + i) []).take k) (by rw [List.length_take]; omega)
        by_cases htk : k < (l.getD (1 + i) []).length ∧ tokB ((l.getD (1 + i) []).take k) = true
        · obtain ⟨hkl, htk⟩ := htk
          rw [htk] at d2 hH
          have d4 : Ctr Tryd.prog 49 [.s (List.drop ((k : Int) + 1).toNat (List.take ((l.getD ((1 + i : Nat) : Int).toNat []).length : Int).toNat (l.getD ((1 + i : Nat) : Int).toNat [])))] (.s (Lib.trimS ((l.getD (1 + i) []).drop (k + 1)) bl)) := by
            rw [show ((k : Int) + 1) = ((k + 1 : Nat) : Int) by omega, drop_raw, hraw]
            exact rtrim_ctr _ (by rw [List.length_drop]; omega)
          have hH2 : H = if ((l.getD (1 + i) []).drop (k + 1)).all vaC = true then (smallL ((l.getD (1 + i) []).take k), Lib.trimS ((l.getD (1 + i) []).drop (k + 1)) bl, true) else ([], [], false) := by
            rw [hH]
            by_cases h : ((l.getD (1 + i) []).drop (k + 1)).all vaC = true
            · rw [if_pos ⟨hkl, rfl, h⟩, if_pos h]
            · rw [if_neg (fun q => h q.2.2), if_neg h]
          have hvl2 : (Lib.trimS ((l.getD (1 + i) []).drop (k + 1)) bl).length ≤ 2000 := by
            have := trim_len ((l.getD (1 + i) []).drop (k + 1)) bl
            rw [List.length_drop] at this
            omega
          clear hH hvl
          repeat' (first
            | refine r_call (f := 48) rfl rfl Tryd.call48 rfl d1 ?_ | refine r_gcall (f := 18) rfl rfl rfl rfl Tryd.call18 rfl d2 ?_
            | with_reducible (first | refine t_seq ?_ | refine t_region ?_ | refine c_nil ?_ | refine n_then ?_ | refine t_ret ?_ | refine t_skip ?_ | refine t_exit ?_ | refine t_block ?_ | refine n_block ?_ | refine e_then ?_ | refine x_then ?_ | refine x_block ?_ | refine t_draw ?_)
            | refine r_val rfl rfl True.intro ?_ | refine r_gskip rfl rfl rfl ?_ | refine r_gskip2 rfl rfl rfl ?_ | refine r_gval rfl rfl rfl rfl True.intro ?_
            | refine t_true rfl ?_ | refine t_false rfl ?_
            | ((first | refine t_cond_d rfl ?_ ?_ | refine t_cond_i rfl ?_ ?_ | refine t_cond_j rfl ?_ ?_ | refine t_cond_s rfl ?_ ?_ | refine t_cond_n rfl ?_ ?_ | refine t_cond rfl ?_ ?_ | refine c_split_d rfl rfl ?_ ?_ | refine c_split_i rfl rfl ?_ ?_ | refine c_split_j rfl rfl ?_ ?_ | refine c_split_s rfl rfl ?_ ?_ | refine c_split_n rfl rfl ?_ ?_) <;> intro <;> try (first | (rename_i hz; exact Bool.noConfusion (show true = false from hz)) | (rename_i hz; exact Bool.noConfusion (show false = true from hz)) | (exfalso; omega)))
            | ((first | refine r_val rfl rfl ?_ ?_ | refine r_gval rfl rfl rfl rfl ?_ ?_ | refine r_obj rfl rfl ?_ ?_ | refine r_sto rfl ?_ ?_ | refine r_gobj rfl rfl rfl rfl ?_ ?_); focus (first | omega | exact Nat.le_of_ble_eq_true rfl | (simp only [wrap_u8, IntKind.wrap_i64, IntKind.wrap_i32, wrap_u32', wrap_u64', InI]; (repeat' refine And.intro ?_ ?_) <;> omega) | ((repeat' refine And.intro ?_ ?_) <;> first | omega | rfl | exact Nat.le_refl _ | exact Nat.le_of_ble_eq_true rfl | exact bytesF_one _) | (simp_all; done) | (simp_all; omega)))
            | refine e_hit rfl ?_ | refine e_miss rfl ?_
            | with_reducible refine ⟨by kernel_rfl, ?_⟩ | refine x_end rfl ?_ | refine n_end rfl ?_ | ((with_reducible refine c_grd ?_); (fail_if_success (refine c_lit true rfl rfl rfl ?_)); (fail_if_success (refine c_lit false rfl rfl rfl ?_)); refine c_split rfl rfl (fun _ => ?_) (fun _ => ?_)))
          · refine T.loop hL (fun m : Nat => [(2, .pv 2 0), (4, .sl 1 l.length (wxF l)), (6, .s mt), (7, .s tg), (9, .i .i64 (vof hostK L).length), (10, .i .i64 (vof clenK L).length), (11, .gs 11 1 (vof aceK L).length (wxF (vof aceK L))), (12, .gs 12 1 (vof inmK L).length (wxF (vof inmK L))), (13, .i .i64 (1 + i : Nat)), (14, .i .i64 k), (15, .i .i64 (k + 1 + m : Nat))]) (fun _ => [(2, .var rq0), (11, .row 9 1 (vof aceK L).length), (12, .row 9 1 (vof inmK L).length)])
              (fun m => k + 1 + m ≤ (l.getD (1 + i) []).length ∧ (((l.getD (1 + i) []).drop (k + 1)).take m).all vaC = true) (fun m => (l.getD (1 + i) []).length - (k + 1 + m)) 0 ⟨hkl, by simp⟩
              ⟨⟨rfl, rfl, rfl, rfl, rfl, rfl, rfl, rfl, rfl, rfl, rfl, trivial⟩, ⟨rfl, rfl, rfl, trivial⟩, rfl, fun q hq => by rw [hX] at hq; simp at hq⟩ ?_
            rintro m ⟨hm, hall⟩
            have hdl : ((l.getD (1 + i) []).drop (k + 1)).length = (l.getD (1 + i) []).length - (k + 1) := List.length_drop
            by_cases hml : k + 1 + m < (l.getD (1 + i) []).length
            · have hst := allT (p := vaC) (s := (l.getD (1 + i) []).drop (k + 1)) (i := m) (by omega)
              have hat := atN (l.getD (1 + i) []) (k + 1 + m)
              rw [dropD] at hst
              cases hc : vaC ((l.getD (1 + i) []).getD (k + 1 + m) 0) with
              | true =>
                have hcc := of_decide_eq_true hc
                have hna : (32 ≤ at' (l.getD ((1 + i : Nat) : Int).toNat []) ((k + 1 + m : Nat) : Int) ∨ at' (l.getD ((1 + i : Nat) : Int).toNat []) ((k + 1 + m : Nat) : Int) = 9) ∧ ¬ at' (l.getD ((1 + i : Nat) : Int).toNat []) ((k + 1 + m : Nat) : Int) = 127 := by
                  rw [hraw]
                  omega
                clear hcc hat
                repeat' (first
                  | with_reducible (first | refine t_seq ?_ | refine t_region ?_ | refine c_nil ?_ | refine n_then ?_ | refine t_ret ?_ | refine t_skip ?_ | refine t_exit ?_ | refine t_block ?_ | refine n_block ?_ | refine e_then ?_ | refine x_then ?_ | refine x_block ?_ | refine t_draw ?_)
                  | refine r_val rfl rfl True.intro ?_ | refine r_gskip rfl rfl rfl ?_ | refine r_gskip2 rfl rfl rfl ?_ | refine r_gval rfl rfl rfl rfl True.intro ?_
                  | refine t_true rfl ?_ | refine t_false rfl ?_
                  | ((first | refine t_cond_d rfl ?_ ?_ | refine t_cond_i rfl ?_ ?_ | refine t_cond_j rfl ?_ ?_ | refine t_cond_s rfl ?_ ?_ | refine t_cond_n rfl ?_ ?_ | refine t_cond rfl ?_ ?_ | refine c_split_d rfl rfl ?_ ?_ | refine c_split_i rfl rfl ?_ ?_ | refine c_split_j rfl rfl ?_ ?_ | refine c_split_s rfl rfl ?_ ?_ | refine c_split_n rfl rfl ?_ ?_) <;> intro <;> try (first | (rename_i hz; exact Bool.noConfusion (show true = false from hz)) | (rename_i hz; exact Bool.noConfusion (show false = true from hz)) | (exfalso; omega)))
                  | ((first | refine r_val rfl rfl ?_ ?_ | refine r_gval rfl rfl rfl rfl ?_ ?_ | refine r_obj rfl rfl ?_ ?_ | refine r_sto rfl ?_ ?_ | refine r_gobj rfl rfl rfl rfl ?_ ?_); focus (first | omega | exact Nat.le_of_ble_eq_true rfl | (simp only [wrap_u8, IntKind.wrap_i64, IntKind.wrap_i32, wrap_u32', wrap_u64', InI]; (repeat' refine And.intro ?_ ?_) <;> omega) | ((repeat' refine And.intro ?_ ?_) <;> first | omega | rfl | exact Nat.le_refl _ | exact Nat.le_of_ble_eq_true rfl | exact bytesF_one _) | (simp_all; done) | (simp_all; omega)))
                  | refine e_hit rfl ?_ | refine e_miss rfl ?_
                  | with_reducible refine ⟨by kernel_rfl, ?_⟩ | refine x_end rfl ?_ | refine n_end rfl ?_ | ((with_reducible refine c_grd ?_); (fail_if_success (refine c_lit true rfl rfl rfl ?_)); (fail_if_success (refine c_lit false rfl rfl rfl ?_)); refine c_split rfl rfl (fun _ => ?_) (fun _ => ?_)))
                all_goals exact ⟨m + 1, ⟨by omega, by rw [hst, hall, hc]; rfl⟩, by omega, ⟨rfl, rfl, rfl, rfl, rfl, rfl, rfl, rfl, rfl, rfl, congrArg (D.i .i64) (by omega), trivial⟩, ⟨rfl, rfl, rfl, trivial⟩, rfl, fun q hq => by rw [hX] at hq; simp at hq⟩
              | false =>
                have hcc := of_decide_eq_false hc
                have hna : ¬ ((32 ≤ at' (l.getD ((1 + i : Nat) : Int).toNat []) ((k + 1 + m : Nat) : Int) ∨ at' (l.getD ((1 + i : Nat) : Int).toNat []) ((k + 1 + m : Nat) : Int) = 9) ∧ ¬ at' (l.getD ((1 + i : Nat) : Int).toNat []) ((k + 1 + m : Nat) : Int) = 127) := by
                  rw [hraw]
                  omega
                have hbad : ((l.getD (1 + i) []).drop (k + 1)).all vaC = false := allF (i := m) (by omega) (by rw [dropD]; exact hc)
                rw [hH2, if_neg (by rw [hbad]; exact Bool.false_ne_true)]
                clear hcc hat
                repeat' (first
                  | with_reducible (first | refine t_seq ?_ | refine t_region ?_ | refine c_nil ?_ | refine n_then ?_ | refine t_ret ?_ | refine t_skip ?_ | refine t_exit ?_ | refine t_block ?_ | refine n_block ?_ | refine e_then ?_ | refine x_then ?_ | refine x_block ?_ | refine t_draw ?_)
                  | refine r_val rfl rfl True.intro ?_ | refine r_gskip rfl rfl rfl ?_ | refine r_gskip2 rfl rfl rfl ?_ | refine r_gval rfl rfl rfl rfl True.intro ?_
                  | refine t_true rfl ?_ | refine t_false rfl ?_
                  | ((first | refine t_cond_d rfl ?_ ?_ | refine t_cond_i rfl ?_ ?_ | refine t_cond_j rfl ?_ ?_ | refine t_cond_s rfl ?_ ?_ | refine t_cond_n rfl ?_ ?_ | refine t_cond rfl ?_ ?_ | refine c_split_d rfl rfl ?_ ?_ | refine c_split_i rfl rfl ?_ ?_ | refine c_split_j rfl rfl ?_ ?_ | refine c_split_s rfl rfl ?_ ?_ | refine c_split_n rfl rfl ?_ ?_) <;> intro <;> try (first | (rename_i hz; exact Bool.noConfusion (show true = false from hz)) | (rename_i hz; exact Bool.noConfusion (show false = true from hz)) | (exfalso; omega)))
                  | ((first | refine r_val rfl rfl ?_ ?_ | refine r_gval rfl rfl rfl rfl ?_ ?_ | refine r_obj rfl rfl ?_ ?_ | refine r_sto rfl ?_ ?_ | refine r_gobj rfl rfl rfl rfl ?_ ?_); focus (first | omega | exact Nat.le_of_ble_eq_true rfl | (simp only [wrap_u8, IntKind.wrap_i64, IntKind.wrap_i32, wrap_u32', wrap_u64', InI]; (repeat' refine And.intro ?_ ?_) <;> omega) | ((repeat' refine And.intro ?_ ?_) <;> first | omega | rfl | exact Nat.le_refl _ | exact Nat.le_of_ble_eq_true rfl | exact bytesF_one _) | (simp_all; done) | (simp_all; omega)))
                  | refine e_hit rfl ?_ | refine e_miss rfl ?_
                  | with_reducible refine ⟨by kernel_rfl, ?_⟩ | refine x_end rfl ?_ | refine n_end rfl ?_ | ((with_reducible refine c_grd ?_); (fail_if_success (refine c_lit true rfl rfl rfl ?_)); (fail_if_success (refine c_lit false rfl rfl rfl ?_)); refine c_split rfl rfl (fun _ => ?_) (fun _ => ?_)))
                all_goals rfl
            · have hmk : m = ((l.getD (1 + i) []).drop (k + 1)).length := by omega
              rw [hmk, List.take_length] at hall
              rw [hH2, if_pos hall]
              dsimp only
              rw [if_pos rfl]
              clear hH2
              generalize smallL ((l.getD (1 + i) []).take k) = nm at *
              generalize Lib.trimS ((l.getD (1 + i) []).drop (k + 1)) bl = v at *
              repeat' (first
                | refine r_midr 20 hL (fun _ : Unit => [(2, .pv 2 0), (4, .sl 1 l.length (wxF l)), (6, .s mt), (7, .s tg), (9, .i .i64 (vof hostK L).length), (10, .i .i64 (vof clenK L).length), (11, .gs 11 1 (vof aceK L).length (wxF (vof aceK L))), (12, .gs 12 1 (vof inmK L).length (wxF (vof inmK L))), (13, .i .i64 (1 + i : Nat)), (16, .s nm), (17, .s v)]) (fun _ => [(2, .var rq0), (11, .row 9 1 (vof aceK L).length), (12, .row 9 1 (vof inmK L).length)]) (fun _ => True) ?_ ?_ | refine r_call (f := 22) rfl rfl Tryd.call22 rfl d3 ?_ | refine r_call (f := 49) rfl rfl Tryd.call49 rfl d4 ?_
                | with_reducible (first | refine t_seq ?_ | refine t_region ?_ | refine c_nil ?_ | refine n_then ?_ | refine t_ret ?_ | refine t_skip ?_ | refine t_exit ?_ | refine t_block ?_ | refine n_block ?_ | refine e_then ?_ | refine x_then ?_ | refine x_block ?_ | refine t_draw ?_)
                | refine r_val rfl rfl True.intro ?_ | refine r_gskip rfl rfl rfl ?_ | refine r_gskip2 rfl rfl rfl ?_ | refine r_gval rfl rfl rfl rfl True.intro ?_
                | refine t_true rfl ?_ | refine t_false rfl ?_
                | ((first | refine t_cond_d rfl ?_ ?_ | refine t_cond_i rfl ?_ ?_ | refine t_cond_j rfl ?_ ?_ | refine t_cond_s rfl ?_ ?_ | refine t_cond_n rfl ?_ ?_ | refine t_cond rfl ?_ ?_ | refine c_split_d rfl rfl ?_ ?_ | refine c_split_i rfl rfl ?_ ?_ | refine c_split_j rfl rfl ?_ ?_ | refine c_split_s rfl rfl ?_ ?_ | refine c_split_n rfl rfl ?_ ?_) <;> intro <;> try (first | (rename_i hz; exact Bool.noConfusion (show true = false from hz)) | (rename_i hz; exact Bool.noConfusion (show false = true from hz)) | (exfalso; omega)))
                | ((first | refine r_val rfl rfl ?_ ?_ | refine r_gval rfl rfl rfl rfl ?_ ?_ | refine r_obj rfl rfl ?_ ?_ | refine r_sto rfl ?_ ?_ | refine r_gobj rfl rfl rfl rfl ?_ ?_); focus (first | omega | exact Nat.le_of_ble_eq_true rfl | (simp only [wrap_u8, IntKind.wrap_i64, IntKind.wrap_i32, wrap_u32', wrap_u64', InI]; (repeat' refine And.intro ?_ ?_) <;> omega) | ((repeat' refine And.intro ?_ ?_) <;> first | omega | rfl | exact Nat.le_refl _ | exact Nat.le_of_ble_eq_true rfl | exact bytesF_one _) | (simp_all; done) | (simp_all; omega)))
                | refine e_hit rfl ?_ | refine e_miss rfl ?_
                | with_reducible refine ⟨by kernel_rfl, ?_⟩ | refine x_end rfl ?_ | refine n_end rfl ?_ | ((with_reducible refine c_grd ?_); (fail_if_success (refine c_lit true rfl rfl rfl ?_)); (fail_if_success (refine c_lit false rfl rfl rfl ?_)); refine c_split rfl rfl (fun _ => ?_) (fun _ => ?_)))
              · exact ⟨(), trivial, ⟨rfl, rfl, rfl, rfl, rfl, rfl, rfl, rfl, rfl, rfl, rfl, trivial⟩, ⟨rfl, rfl, rfl, trivial⟩, rfl, fun q hq => by rw [hX] at hq; simp at hq⟩
              rintro ⟨⟩ -
              clear d1 d2 d3 d4
              have hfin : ∀ (fr : Fr) (ow : Ow), ¬ badH (nm, v) → getD' 2 fr = .pv 2 0 → getD' 4 fr = .sl 1 l.length (wxF l) → getD' 6 fr = .s mt → getD' 7 fr = .s tg → getD' 9 fr = .i .i64 (vof hostK (L ++ [(nm, v)])).length → getD' 10 fr = .i .i64 (vof clenK (L ++ [(nm, v)])).length →
                  getD' 11 fr = .gs 11 1 (vof aceK (L ++ [(nm, v)])).length (wxF (vof aceK (L ++ [(nm, v)]))) → getD' 12 fr = .gs 12 1 (vof inmK (L ++ [(nm, v)])).length (wxF (vof inmK (L ++ [(nm, v)]))) → getD' 13 fr = .i .i64 (((1 + i : Nat) : Int) + 1) →
                  look 2 ow = some (.var rq0) → look 11 ow = some (.row 9 1 (vof aceK (L ++ [(nm, v)])).length) → look 12 ow = some (.row 9 1 (vof inmK (L ++ [(nm, v)])).length) →
                  ∃ y : Nat × Hv, (1 + y.1 ≤ l.length ∧ restR mt tg L ((hdvs (l.drop (1 + i + 1))).map ((nm, v) :: ·)) = restR mt tg y.2 (hdvs (l.drop (1 + y.1))) ∧ okSoFar y.2 ∧ y.2.length ≤ y.1 ∧ ∀ p ∈ y.2, p.2.length ≤ 2000) ∧ l.length - y.1 < l.length - i ∧
                    Le X fr ow [(2, .pv 2 0), (4, .sl 1 l.length (wxF l)), (6, .s mt), (7, .s tg), (9, .i .i64 (vof hostK y.2).length), (10, .i .i64 (vof clenK y.2).length), (11, .gs 11 1 (vof aceK y.2).length (wxF (vof aceK y.2))), (12, .gs 12 1 (vof inmK y.2).length (wxF (vof inmK y.2))), (13, .i .i64 (1 + y.1 : Nat))]
                      [(2, .var rq0), (11, .row 9 1 (vof aceK y.2).length), (12, .row 9 1 (vof inmK y.2).length)] := fun fr ow hb h2 h4 h6 h7 h9 h10 h11 h12 h13 k2 k11 k12 =>
                ⟨(i + 1, L ++ [(nm, v)]), ⟨by dsimp only; omega, rest_next, ok_add hok hb, by dsimp only; simp; omega, fun p hp => by
                  rcases List.mem_append.1 hp with hp | hp
                  · exact hmem p hp
                  · simp at hp
                    subst hp
                    exact hvl2⟩, by dsimp only; omega, ⟨h2, h4, h6, h7, h9, h10, h11, h12, h13.trans (congrArg (D.i .i64) (by dsimp only; omega)), trivial⟩, ⟨k2, k11, k12, trivial⟩, rfl, fun q hq => by rw [hX] at hq; simp at hq⟩
              have e9 := vof_one hostK L (nm, v)
              have e10 := vof_one clenK L (nm, v)
              have e11 := vof_one aceK L (nm, v)
              have e12 := vof_one inmK L (nm, v)
              dsimp only at e9 e10 e11 e12
              by_cases n1 : nm = tencK
              · rw [rest_bad (.inl n1)]
                subst n1
                repeat' (first
                  | with_reducible (first | refine t_seq ?_ | refine t_region ?_ | refine c_nil ?_ | refine n_then ?_ | refine t_ret ?_ | refine t_skip ?_ | refine t_exit ?_ | refine t_block ?_ | refine n_block ?_ | refine e_then ?_ | refine x_then ?_ | refine x_block ?_ | refine t_draw ?_)
                  | refine r_val rfl rfl True.intro ?_ | refine r_gskip rfl rfl rfl ?_ | refine r_gskip2 rfl rfl rfl ?_ | refine r_gval rfl rfl rfl rfl True.intro ?_
                  | refine t_true rfl ?_ | refine t_false rfl ?_
                  | ((first | refine t_cond_d rfl ?_ ?_ | refine t_cond_i rfl ?_ ?_ | refine t_cond_j rfl ?_ ?_ | refine t_cond_s rfl ?_ ?_ | refine t_cond_n rfl ?_ ?_ | refine t_cond rfl ?_ ?_ | refine c_split_d rfl rfl ?_ ?_ | refine c_split_i rfl rfl ?_ ?_ | refine c_split_j rfl rfl ?_ ?_ | refine c_split_s rfl rfl ?_ ?_ | refine c_split_n rfl rfl ?_ ?_) <;> intro <;> try (first | (rename_i hz; exact Bool.noConfusion (show true = false from hz)) | (rename_i hz; exact Bool.noConfusion (show false = true from hz)) | (exfalso; omega)))
                  | ((first | refine r_val rfl rfl ?_ ?_ | refine r_gval rfl rfl rfl rfl ?_ ?_ | refine r_obj rfl rfl ?_ ?_ | refine r_sto rfl ?_ ?_ | refine r_gobj rfl rfl rfl rfl ?_ ?_); focus (first | omega | exact Nat.le_of_ble_eq_true rfl | (simp only [wrap_u8, IntKind.wrap_i64, IntKind.wrap_i32, wrap_u32', wrap_u64', InI]; (repeat' refine And.intro ?_ ?_) <;> omega) | ((repeat' refine And.intro ?_ ?_) <;> first | omega | rfl | exact Nat.le_refl _ | exact Nat.le_of_ble_eq_true rfl | exact bytesF_one _) | (simp_all; done) | (simp_all; omega)))
                  | refine e_hit rfl ?_ | refine e_miss rfl ?_
                  | with_reducible refine ⟨by kernel_rfl, ?_⟩ | refine x_end rfl ?_ | refine n_end rfl ?_ | ((with_reducible refine c_grd ?_); (fail_if_success (refine c_lit true rfl rfl rfl ?_)); (fail_if_success (refine c_lit false rfl rfl rfl ?_)); refine c_split rfl rfl (fun _ => ?_) (fun _ => ?_)))
                all_goals rfl
              · by_cases n2 : nm = clenK
                · by_cases hv : v = [48]
                  · subst n2 hv
                    rw [if_neg (by decide)] at e9 e11 e12
                    rw [if_pos rfl] at e10
                    repeat' (first
                      | with_reducible (first | refine t_seq ?_ | refine t_region ?_ | refine c_nil ?_ | refine n_then ?_ | refine t_ret ?_ | refine t_skip ?_ | refine t_exit ?_ | refine t_block ?_ | refine n_block ?_ | refine e_then ?_ | refine x_then ?_ | refine x_block ?_ | refine t_draw ?_)
                      | refine r_val rfl rfl True.intro ?_ | refine r_gskip rfl rfl rfl ?_ | refine r_gskip2 rfl rfl rfl ?_ | refine r_gval rfl rfl rfl rfl True.intro ?_
                      | refine t_true rfl ?_ | refine t_false rfl ?_
                      | ((first | refine t_cond_d rfl ?_ ?_ | refine t_cond_i rfl ?_ ?_ | refine t_cond_j rfl ?_ ?_ | refine t_cond_s rfl ?_ ?_ | refine t_cond_n rfl ?_ ?_ | refine t_cond rfl ?_ ?_ | refine c_split_d rfl rfl ?_ ?_ | refine c_split_i rfl rfl ?_ ?_ | refine c_split_j rfl rfl ?_ ?_ | refine c_split_s rfl rfl ?_ ?_ | refine c_split_n rfl rfl ?_ ?_) <;> intro <;> try (first | (rename_i hz; exact Bool.noConfusion (show true = false from hz)) | (rename_i hz; exact Bool.noConfusion (show false = true from hz)) | (exfalso; omega)))
                      | ((first | refine r_val rfl rfl ?_ ?_ | refine r_gval rfl rfl rfl rfl ?_ ?_ | refine r_obj rfl rfl ?_ ?_ | refine r_sto rfl ?_ ?_ | refine r_gobj rfl rfl rfl rfl ?_ ?_); focus (first | omega | exact Nat.le_of_ble_eq_true rfl | (simp only [wrap_u8, IntKind.wrap_i64, IntKind.wrap_i32, wrap_u32', wrap_u64', InI]; (repeat' refine And.intro ?_ ?_) <;> omega) | ((repeat' refine And.intro ?_ ?_) <;> first | omega | rfl | exact Nat.le_refl _ | exact Nat.le_of_ble_eq_true rfl | exact bytesF_one _) | (simp_all; done) | (simp_all; omega)))
                      | refine e_hit rfl ?_ | refine e_miss rfl ?_
                      | with_reducible refine ⟨by kernel_rfl, ?_⟩ | refine x_end rfl ?_ | refine n_end rfl ?_ | ((with_reducible refine c_grd ?_); (fail_if_success (refine c_lit true rfl rfl rfl ?_)); (fail_if_success (refine c_lit false rfl rfl rfl ?_)); refine c_split rfl rfl (fun _ => ?_) (fun _ => ?_)))
                    all_goals exact hfin _ _ (by unfold badH; decide) rfl rfl rfl rfl (by rw [e9]; rfl) (by rw [e10, List.length_append]; rfl) (by rw [e11]; rfl) (by rw [e12]; rfl) rfl rfl (by rw [e11]; rfl) (by rw [e12]; rfl)
                  · rw [rest_bad (.inr (.inl ⟨n2, hv⟩))]
                    have hv' : ¬ v = (ByteArray.mk #[48]).data.toList := hv
                    have hbv : (v == (ByteArray.mk #[48]).data.toList) = false := beq_eq_false_iff_ne.2 hv
                    subst n2
                    repeat' (first
                      | with_reducible (first | refine t_seq ?_ | refine t_region ?_ | refine c_nil ?_ | refine n_then ?_ | refine t_ret ?_ | refine t_skip ?_ | refine t_exit ?_ | refine t_block ?_ | refine n_block ?_ | refine e_then ?_ | refine x_then ?_ | refine x_block ?_ | refine t_draw ?_)
                      | refine r_val rfl rfl True.intro ?_ | refine r_gskip rfl rfl rfl ?_ | refine r_gskip2 rfl rfl rfl ?_ | refine r_gval rfl rfl rfl rfl True.intro ?_
                      | refine t_true rfl ?_ | refine t_false rfl ?_
                      | ((first | refine t_cond_d rfl ?_ ?_ | refine t_cond_i rfl ?_ ?_ | refine t_cond_j rfl ?_ ?_ | refine t_cond_s rfl ?_ ?_ | refine t_cond_n rfl ?_ ?_ | refine t_cond rfl ?_ ?_ | refine c_split_d rfl rfl ?_ ?_ | refine c_split_i rfl rfl ?_ ?_ | refine c_split_j rfl rfl ?_ ?_ | refine c_split_s rfl rfl ?_ ?_ | refine c_split_n rfl rfl ?_ ?_) <;> intro <;> try (first | (rename_i hz; exact Bool.noConfusion (show true = false from hz)) | (rename_i hz; exact Bool.noConfusion (show false = true from hz)) | (exfalso; omega)))
                      | ((first | refine r_val rfl rfl ?_ ?_ | refine r_gval rfl rfl rfl rfl ?_ ?_ | refine r_obj rfl rfl ?_ ?_ | refine r_sto rfl ?_ ?_ | refine r_gobj rfl rfl rfl rfl ?_ ?_); focus (first | omega | exact Nat.le_of_ble_eq_true rfl | (simp only [wrap_u8, IntKind.wrap_i64, IntKind.wrap_i32, wrap_u32', wrap_u64', InI]; (repeat' refine And.intro ?_ ?_) <;> omega) | ((repeat' refine And.intro ?_ ?_) <;> first | omega | rfl | exact Nat.le_refl _ | exact Nat.le_of_ble_eq_true rfl | exact bytesF_one _) | (simp_all; done) | (simp_all; omega)))
                      | refine e_hit rfl ?_ | refine e_miss rfl ?_
                      | with_reducible refine ⟨by kernel_rfl, ?_⟩ | refine x_end rfl ?_ | refine n_end rfl ?_ | ((with_reducible refine c_grd ?_); (fail_if_success (refine c_lit true rfl rfl rfl ?_)); (fail_if_success (refine c_lit false rfl rfl rfl ?_)); refine c_split rfl rfl (fun _ => ?_) (fun _ => ?_)))
                    all_goals first
                      | rfl
                      | (exfalso; simp only [hbv, Bool.false_eq_true] at *; done)
                      | trace_state
                · by_cases n3 : nm = hostK
                  · by_cases hv : v = []
                    · rw [rest_bad (.inr (.inr ⟨n3, hv⟩))]
                      subst n3 hv
                      repeat' (first
                        | with_reducible (first | refine t_seq ?_ | refine t_region ?_ | refine c_nil ?_ | refine n_then ?_ | refine t_ret ?_ | refine t_skip ?_ | refine t_exit ?_ | refine t_block ?_ | refine n_block ?_ | refine e_then ?_ | refine x_then ?_ | refine x_block ?_ | refine t_draw ?_)
                        | refine r_val rfl rfl True.intro ?_ | refine r_gskip rfl rfl rfl ?_ | refine r_gskip2 rfl rfl rfl ?_ | refine r_gval rfl rfl rfl rfl True.intro ?_
                        | refine t_true rfl ?_ | refine t_false rfl ?_
                        | ((first | refine t_cond_d rfl ?_ ?_ | refine t_cond_i rfl ?_ ?_ | refine t_cond_j rfl ?_ ?_ | refine t_cond_s rfl ?_ ?_ | refine t_cond_n rfl ?_ ?_ | refine t_cond rfl ?_ ?_ | refine c_split_d rfl rfl ?_ ?_ | refine c_split_i rfl rfl ?_ ?_ | refine c_split_j rfl rfl ?_ ?_ | refine c_split_s rfl rfl ?_ ?_ | refine c_split_n rfl rfl ?_ ?_) <;> intro <;> try (first | (rename_i hz; exact Bool.noConfusion (show true = false from hz)) | (rename_i hz; exact Bool.noConfusion (show false = true from hz)) | (exfalso; omega)))
                        | ((first | refine r_val rfl rfl ?_ ?_ | refine r_gval rfl rfl rfl rfl ?_ ?_ | refine r_obj rfl rfl ?_ ?_ | refine r_sto rfl ?_ ?_ | refine r_gobj rfl rfl rfl rfl ?_ ?_); focus (first | omega | exact Nat.le_of_ble_eq_true rfl | (simp only [wrap_u8, IntKind.wrap_i64, IntKind.wrap_i32, wrap_u32', wrap_u64', InI]; (repeat' refine And.intro ?_ ?_) <;> omega) | ((repeat' refine And.intro ?_ ?_) <;> first | omega | rfl | exact Nat.le_refl _ | exact Nat.le_of_ble_eq_true rfl | exact bytesF_one _) | (simp_all; done) | (simp_all; omega)))
                        | refine e_hit rfl ?_ | refine e_miss rfl ?_
                        | with_reducible refine ⟨by kernel_rfl, ?_⟩ | refine x_end rfl ?_ | refine n_end rfl ?_ | ((with_reducible refine c_grd ?_); (fail_if_success (refine c_lit true rfl rfl rfl ?_)); (fail_if_success (refine c_lit false rfl rfl rfl ?_)); refine c_split rfl rfl (fun _ => ?_) (fun _ => ?_)))
                      all_goals rfl
                    · have hv' : ¬ v = (ByteArray.mk #[]).data.toList := hv
                      have hbv : (v == (ByteArray.mk #[]).data.toList) = false := beq_eq_false_iff_ne.2 hv
                      subst n3
                      have hnb : ¬ badH (hostK, v) := by
                        rintro (h | h | h)
                        · exact absurd (show hostK = tencK from h) (by decide)
                        · exact absurd (show hostK = clenK from h.1) (by decide)
                        · exact hv h.2
                      rw [if_neg (by decide)] at e10 e11 e12
                      rw [if_pos rfl] at e9
                      repeat' (first
                        | with_reducible (first | refine t_seq ?_ | refine t_region ?_ | refine c_nil ?_ | refine n_then ?_ | refine t_ret ?_ | refine t_skip ?_ | refine t_exit ?_ | refine t_block ?_ | refine n_block ?_ | refine e_then ?_ | refine x_then ?_ | refine x_block ?_ | refine t_draw ?_)
                        | refine r_val rfl rfl True.intro ?_ | refine r_gskip rfl rfl rfl ?_ | refine r_gskip2 rfl rfl rfl ?_ | refine r_gval rfl rfl rfl rfl True.intro ?_
                        | refine t_true rfl ?_ | refine t_false rfl ?_
                        | ((first | refine t_cond_d rfl ?_ ?_ | refine t_cond_i rfl ?_ ?_ | refine t_cond_j rfl ?_ ?_ | refine t_cond_s rfl ?_ ?_ | refine t_cond_n rfl ?_ ?_ | refine t_cond rfl ?_ ?_ | refine c_split_d rfl rfl ?_ ?_ | refine c_split_i rfl rfl ?_ ?_ | refine c_split_j rfl rfl ?_ ?_ | refine c_split_s rfl rfl ?_ ?_ | refine c_split_n rfl rfl ?_ ?_) <;> intro <;> try (first | (rename_i hz; exact Bool.noConfusion (show true = false from hz)) | (rename_i hz; exact Bool.noConfusion (show false = true from hz)) | (exfalso; omega)))
                        | ((first | refine r_val rfl rfl ?_ ?_ | refine r_gval rfl rfl rfl rfl ?_ ?_ | refine r_obj rfl rfl ?_ ?_ | refine r_sto rfl ?_ ?_ | refine r_gobj rfl rfl rfl rfl ?_ ?_); focus (first | omega | exact Nat.le_of_ble_eq_true rfl | (simp only [wrap_u8, IntKind.wrap_i64, IntKind.wrap_i32, wrap_u32', wrap_u64', InI]; (repeat' refine And.intro ?_ ?_) <;> omega) | ((repeat' refine And.intro ?_ ?_) <;> first | omega | rfl | exact Nat.le_refl _ | exact Nat.le_of_ble_eq_true rfl | exact bytesF_one _) | (simp_all; done) | (simp_all; omega)))
                        | refine e_hit rfl ?_ | refine e_miss rfl ?_
                        | with_reducible refine ⟨by kernel_rfl, ?_⟩ | refine x_end rfl ?_ | refine n_end rfl ?_ | ((with_reducible refine c_grd ?_); (fail_if_success (refine c_lit true rfl rfl rfl ?_)); (fail_if_success (refine c_lit false rfl rfl rfl ?_)); refine c_split rfl rfl (fun _ => ?_) (fun _ => ?_)))
                      all_goals first
                        | exact hfin _ _ hnb rfl rfl rfl rfl (by rw [e9, List.length_append]; rfl) (by rw [e10]; rfl) (by rw [e11]; rfl) (by rw [e12]; rfl) rfl rfl (by rw [e11]; rfl) (by rw [e12]; rfl)
                        | (exfalso; simp only [hbv, Bool.false_eq_true] at *; done)
                        | (exfalso; exact hv' ‹_›)
                        | trace_state
                  · have hnb : ¬ badH (nm, v) := by
                      rintro (h | h | h)
                      · exact n1 h
                      · exact n2 h.1
                      · exact n3 h.1
                    rw [if_neg n3] at e9
                    rw [if_neg n2] at e10
                    by_cases n4 : nm = aceK
                    · subst n4
                      rw [if_pos rfl] at e11
                      rw [if_neg (by decide)] at e12
                      have hcat := catF_wx (vof aceK L) v (chunk 1 [D.s v]) rfl
                      repeat' (first
                        | with_reducible (first | refine t_seq ?_ | refine t_region ?_ | refine c_nil ?_ | refine n_then ?_ | refine t_ret ?_ | refine t_skip ?_ | refine t_exit ?_ | refine t_block ?_ | refine n_block ?_ | refine e_then ?_ | refine x_then ?_ | refine x_block ?_ | refine t_draw ?_)
                        | refine r_val rfl rfl True.intro ?_ | refine r_gskip rfl rfl rfl ?_ | refine r_gskip2 rfl rfl rfl ?_ | refine r_gval rfl rfl rfl rfl True.intro ?_
                        | refine t_true rfl ?_ | refine t_false rfl ?_
                        | ((first | refine t_cond_d rfl ?_ ?_ | refine t_cond_i rfl ?_ ?_ | refine t_cond_j rfl ?_ ?_ | refine t_cond_s rfl ?_ ?_ | refine t_cond_n rfl ?_ ?_ | refine t_cond rfl ?_ ?_ | refine c_split_d rfl rfl ?_ ?_ | refine c_split_i rfl rfl ?_ ?_ | refine c_split_j rfl rfl ?_ ?_ | refine c_split_s rfl rfl ?_ ?_ | refine c_split_n rfl rfl ?_ ?_) <;> intro <;> try (first | (rename_i hz; exact Bool.noConfusion (show true = false from hz)) | (rename_i hz; exact Bool.noConfusion (show false = true from hz)) | (exfalso; omega)))
                        | ((first | refine r_val rfl rfl ?_ ?_ | refine r_gval rfl rfl rfl rfl ?_ ?_ | refine r_obj rfl rfl ?_ ?_ | refine r_sto rfl ?_ ?_ | refine r_gobj rfl rfl rfl rfl ?_ ?_); focus (first | omega | exact Nat.le_of_ble_eq_true rfl | (simp only [wrap_u8, IntKind.wrap_i64, IntKind.wrap_i32, wrap_u32', wrap_u64', InI]; (repeat' refine And.intro ?_ ?_) <;> omega) | ((repeat' refine And.intro ?_ ?_) <;> first | omega | rfl | exact Nat.le_refl _ | exact Nat.le_of_ble_eq_true rfl | exact bytesF_one _) | (simp_all; done) | (simp_all; omega)))
                        | refine e_hit rfl ?_ | refine e_miss rfl ?_
                        | with_reducible refine ⟨by kernel_rfl, ?_⟩ | refine x_end rfl ?_ | refine n_end rfl ?_ | ((with_reducible refine c_grd ?_); (fail_if_success (refine c_lit true rfl rfl rfl ?_)); (fail_if_success (refine c_lit false rfl rfl rfl ?_)); refine c_split rfl rfl (fun _ => ?_) (fun _ => ?_)))
                      all_goals exact hfin _ _ hnb rfl rfl rfl rfl (by rw [e9]; rfl) (by rw [e10]; rfl) (by rw [e11, ← hcat, List.length_append]; rfl) (by rw [e12]; rfl) rfl rfl (by rw [e11, List.length_append]; rfl) (by rw [e12]; rfl)
                    · by_cases n5 : nm = inmK
                      · subst n5
                        rw [if_neg (by decide)] at e11
                        rw [if_pos rfl] at e12
                        have hcat := catF_wx (vof inmK L) v (chunk 1 [D.s v]) rfl
                        repeat' (first
                          | with_reducible (first | refine t_seq ?_ | refine t_region ?_ | refine c_nil ?_ | refine n_then ?_ | refine t_ret ?_ | refine t_skip ?_ | refine t_exit ?_ | refine t_block ?_ | refine n_block ?_ | refine e_then ?_ | refine x_then ?_ | refine x_block ?_ | refine t_draw ?_)
                          | refine r_val rfl rfl True.intro ?_ | refine r_gskip rfl rfl rfl ?_ | refine r_gskip2 rfl rfl rfl ?_ | refine r_gval rfl rfl rfl rfl True.intro ?_
                          | refine t_true rfl ?_ | refine t_false rfl ?_
                          | ((first | refine t_cond_d rfl ?_ ?_ | refine t_cond_i rfl ?_ ?_ | refine t_cond_j rfl ?_ ?_ | refine t_cond_s rfl ?_ ?_ | refine t_cond_n rfl ?_ ?_ | refine t_cond rfl ?_ ?_ | refine c_split_d rfl rfl ?_ ?_ | refine c_split_i rfl rfl ?_ ?_ | refine c_split_j rfl rfl ?_ ?_ | refine c_split_s rfl rfl ?_ ?_ | refine c_split_n rfl rfl ?_ ?_) <;> intro <;> try (first | (rename_i hz; exact Bool.noConfusion (show true = false from hz)) | (rename_i hz; exact Bool.noConfusion (show false = true from hz)) | (exfalso; omega)))
                          | ((first | refine r_val rfl rfl ?_ ?_ | refine r_gval rfl rfl rfl rfl ?_ ?_ | refine r_obj rfl rfl ?_ ?_ | refine r_sto rfl ?_ ?_ | refine r_gobj rfl rfl rfl rfl ?_ ?_); focus (first | omega | exact Nat.le_of_ble_eq_true rfl | (simp only [wrap_u8, IntKind.wrap_i64, IntKind.wrap_i32, wrap_u32', wrap_u64', InI]; (repeat' refine And.intro ?_ ?_) <;> omega) | ((repeat' refine And.intro ?_ ?_) <;> first | omega | rfl | exact Nat.le_refl _ | exact Nat.le_of_ble_eq_true rfl | exact bytesF_one _) | (simp_all; done) | (simp_all; omega)))
                          | refine e_hit rfl ?_ | refine e_miss rfl ?_
                          | with_reducible refine ⟨by kernel_rfl, ?_⟩ | refine x_end rfl ?_ | refine n_end rfl ?_ | ((with_reducible refine c_grd ?_); (fail_if_success (refine c_lit true rfl rfl rfl ?_)); (fail_if_success (refine c_lit false rfl rfl rfl ?_)); refine c_split rfl rfl (fun _ => ?_) (fun _ => ?_)))
                        all_goals exact hfin _ _ hnb rfl rfl rfl rfl (by rw [e9]; rfl) (by rw [e10]; rfl) (by rw [e11]; rfl) (by rw [e12, ← hcat, List.length_append]; rfl) rfl rfl (by rw [e11]; rfl) (by rw [e12, List.length_append]; rfl)
                      · rw [if_neg n4] at e11
                        rw [if_neg n5] at e12
                        have m1 : ¬ nm = (ByteArray.mk #[116, 114, 97, 110, 115, 102, 101, 114, 45, 101, 110, 99, 111, 100, 105, 110, 103]).data.toList := n1
                        have m2 : ¬ nm = (ByteArray.mk #[99, 111, 110, 116, 101, 110, 116, 45, 108, 101, 110, 103, 116, 104]).data.toList := n2
                        have m3 : ¬ nm = (ByteArray.mk #[104, 111, 115, 116]).data.toList := n3
                        have m4 : ¬ nm = (ByteArray.mk #[97, 99, 99, 101, 112, 116, 45, 101, 110, 99, 111, 100, 105, 110, 103]).data.toList := n4
                        have m5 : ¬ nm = (ByteArray.mk #[105, 102, 45, 110, 111, 110, 101, 45, 109, 97, 116, 99, 104]).data.toList := n5
                        repeat' (first
                          | with_reducible (first | refine t_seq ?_ | refine t_region ?_ | refine c_nil ?_ | refine n_then ?_ | refine t_ret ?_ | refine t_skip ?_ | refine t_exit ?_ | refine t_block ?_ | refine n_block ?_ | refine e_then ?_ | refine x_then ?_ | refine x_block ?_ | refine t_draw ?_)
                          | refine r_val rfl rfl True.intro ?_ | refine r_gskip rfl rfl rfl ?_ | refine r_gskip2 rfl rfl rfl ?_ | refine r_gval rfl rfl rfl rfl True.intro ?_
                          | refine t_true rfl ?_ | refine t_false rfl ?_
                          | ((first | refine t_cond_d rfl ?_ ?_ | refine t_cond_i rfl ?_ ?_ | refine t_cond_j rfl ?_ ?_ | refine t_cond_s rfl ?_ ?_ | refine t_cond_n rfl ?_ ?_ | refine t_cond rfl ?_ ?_ | refine c_split_d rfl rfl ?_ ?_ | refine c_split_i rfl rfl ?_ ?_ | refine c_split_j rfl rfl ?_ ?_ | refine c_split_s rfl rfl ?_ ?_ | refine c_split_n rfl rfl ?_ ?_) <;> intro <;> try (first | (rename_i hz; exact Bool.noConfusion (show true = false from hz)) | (rename_i hz; exact Bool.noConfusion (show false = true from hz)) | (exfalso; omega)))
                          | ((first | refine r_val rfl rfl ?_ ?_ | refine r_gval rfl rfl rfl rfl ?_ ?_ | refine r_obj rfl rfl ?_ ?_ | refine r_sto rfl ?_ ?_ | refine r_gobj rfl rfl rfl rfl ?_ ?_); focus (first | omega | exact Nat.le_of_ble_eq_true rfl | (simp only [wrap_u8, IntKind.wrap_i64, IntKind.wrap_i32, wrap_u32', wrap_u64', InI]; (repeat' refine And.intro ?_ ?_) <;> omega) | ((repeat' refine And.intro ?_ ?_) <;> first | omega | rfl | exact Nat.le_refl _ | exact Nat.le_of_ble_eq_true rfl | exact bytesF_one _) | (simp_all; done) | (simp_all; omega)))
                          | refine e_hit rfl ?_ | refine e_miss rfl ?_
                          | with_reducible refine ⟨by kernel_rfl, ?_⟩ | refine x_end rfl ?_ | refine n_end rfl ?_ | ((with_reducible refine c_grd ?_); (fail_if_success (refine c_lit true rfl rfl rfl ?_)); (fail_if_success (refine c_lit false rfl rfl rfl ?_)); refine c_split rfl rfl (fun _ => ?_) (fun _ => ?_)))
                        all_goals first
                          | exact hfin _ _ hnb rfl rfl rfl rfl (by rw [e9]; rfl) (by rw [e10]; rfl) (by rw [e11]; rfl) (by rw [e12]; rfl) rfl rfl (by rw [e11]; rfl) (by rw [e12]; rfl)
                          | (exfalso; first | exact m1 ‹_› | exact m2 ‹_› | exact m3 ‹_› | exact m4 ‹_› | exact m5 ‹_›)
                          | trace_state
        · have hn : H = ([], [], false) := by
            rw [hH]
            exact if_neg fun q => htk ⟨q.1, q.2.1⟩
          rw [hn]
          clear hH hn
          generalize tokB ((l.getD (1 + i) []).take k) = tk at *
          repeat' (first
            | refine r_call (f := 48) rfl rfl Tryd.call48 rfl d1 ?_ | refine r_gcall (f := 18) rfl rfl rfl rfl Tryd.call18 rfl d2 ?_
            | with_reducible (first | refine t_seq ?_ | refine t_region ?_ | refine c_nil ?_ | refine n_then ?_ | refine t_ret ?_ | refine t_skip ?_ | refine t_exit ?_ | refine t_block ?_ | refine n_block ?_ | refine e_then ?_ | refine x_then ?_ | refine x_block ?_ | refine t_draw ?_)
            | refine r_val rfl rfl True.intro ?_ | refine r_gskip rfl rfl rfl ?_ | refine r_gskip2 rfl rfl rfl ?_ | refine r_gval rfl rfl rfl rfl True.intro ?_
            | refine t_true rfl ?_ | refine t_false rfl ?_
            | ((first | refine t_cond_d rfl ?_ ?_ | refine t_cond_i rfl ?_ ?_ | refine t_cond_j rfl ?_ ?_ | refine t_cond_s rfl ?_ ?_ | refine t_cond_n rfl ?_ ?_ | refine t_cond rfl ?_ ?_ | refine c_split_d rfl rfl ?_ ?_ | refine c_split_i rfl rfl ?_ ?_ | refine c_split_j rfl rfl ?_ ?_ | refine c_split_s rfl rfl ?_ ?_ | refine c_split_n rfl rfl ?_ ?_) <;> intro <;> try (first | (rename_i hz; exact Bool.noConfusion (show true = false from hz)) | (rename_i hz; exact Bool.noConfusion (show false = true from hz)) | (exfalso; omega)))
            | ((first | refine r_val rfl rfl ?_ ?_ | refine r_gval rfl rfl rfl rfl ?_ ?_ | refine r_obj rfl rfl ?_ ?_ | refine r_sto rfl ?_ ?_ | refine r_gobj rfl rfl rfl rfl ?_ ?_); focus (first | omega | exact Nat.le_of_ble_eq_true rfl | (simp only [wrap_u8, IntKind.wrap_i64, IntKind.wrap_i32, wrap_u32', wrap_u64', InI]; (repeat' refine And.intro ?_ ?_) <;> omega) | ((repeat' refine And.intro ?_ ?_) <;> first | omega | rfl | exact Nat.le_refl _ | exact Nat.le_of_ble_eq_true rfl | exact bytesF_one _) | (simp_all; done) | (simp_all; omega)))
            | refine e_hit rfl ?_ | refine e_miss rfl ?_
            | with_reducible refine ⟨by kernel_rfl, ?_⟩ | refine x_end rfl ?_ | refine n_end rfl ?_ | ((with_reducible refine c_grd ?_); (fail_if_success (refine c_lit true rfl rfl rfl ?_)); (fail_if_success (refine c_lit false rfl rfl rfl ?_)); refine c_split rfl rfl (fun _ => ?_) (fun _ => ?_)))
          all_goals first
            | rfl
            | (exfalso; exact htk ⟨by omega, by simpa using ‹_›⟩)
            | trace_state
      · have hd : l.drop (1 + i) = [] := List.drop_eq_nil_of_le (by omega)
        have hr : restR mt tg L (hdvs []) = if goodL L then some (ansR mt tg L) else none := by
          show (if goodL (L ++ []) then some (ansR mt tg (L ++ [])) else none) = _
          rw [List.append_nil]
        rw [hd, hr]
        by_cases hg : (vof hostK L).length = 1 ∧ (vof clenK L).length ≤ 1
        · rw [if_pos ((good_iff L).2 ⟨hok, hg⟩)]
          have c3 := find_ctr tg 0 63 (by omega) (Nat.zero_le _)
          rw [List.drop_zero, Nat.zero_add] at c3
          have l3 := fndN_le 63 tg
          have c4 := raccepts_ctr (vof aceK L) (by omega) (fun j => Nat.le_trans (getD_len (n := 2000) (fun v hv => by
            obtain ⟨p, hp, rfl⟩ := vof_mem hv
            exact hmem p hp) j) (by decide))
          have c5 := rtags_ctr (vof inmK L) (by omega) (fun j => Nat.le_trans (getD_len (n := 2000) (fun v hv => by
            obtain ⟨p, hp, rfl⟩ := vof_mem hv
            exact hmem p hp) j) (by decide))
          unfold ansR
          generalize fndN 63 tg = a at *
          generalize accV (vof aceK L) = acc at *
          generalize tagsA (vof inmK L) = TG at *
          obtain ⟨tgs, any⟩ := TG
          repeat' (first
            | refine r_call (f := 48) rfl rfl Tryd.call48 rfl c3 ?_ | refine r_call (f := 50) rfl rfl Tryd.call50 rfl c4 ?_ | refine r_call (f := 51) rfl rfl Tryd.call51 rfl c5 ?_
            | with_reducible (first | refine t_seq ?_ | refine t_region ?_ | refine c_nil ?_ | refine n_then ?_ | refine t_ret ?_ | refine t_skip ?_ | refine t_exit ?_ | refine t_block ?_ | refine n_block ?_ | refine e_then ?_ | refine x_then ?_ | refine x_block ?_ | refine t_draw ?_)
            | refine r_val rfl rfl True.intro ?_ | refine r_gskip rfl rfl rfl ?_ | refine r_gskip2 rfl rfl rfl ?_ | refine r_gval rfl rfl rfl rfl True.intro ?_
            | refine t_true rfl ?_ | refine t_false rfl ?_
            | ((first | refine t_cond_d rfl ?_ ?_ | refine t_cond_i rfl ?_ ?_ | refine t_cond_j rfl ?_ ?_ | refine t_cond_s rfl ?_ ?_ | refine t_cond_n rfl ?_ ?_ | refine t_cond rfl ?_ ?_ | refine c_split_d rfl rfl ?_ ?_ | refine c_split_i rfl rfl ?_ ?_ | refine c_split_j rfl rfl ?_ ?_ | refine c_split_s rfl rfl ?_ ?_ | refine c_split_n rfl rfl ?_ ?_) <;> intro <;> try (first | (rename_i hz; exact Bool.noConfusion (show true = false from hz)) | (rename_i hz; exact Bool.noConfusion (show false = true from hz)) | (exfalso; omega)))
            | ((first | refine r_val rfl rfl ?_ ?_ | refine r_gval rfl rfl rfl rfl ?_ ?_ | refine r_obj rfl rfl ?_ ?_ | refine r_sto rfl ?_ ?_ | refine r_gobj rfl rfl rfl rfl ?_ ?_); focus (first | omega | exact Nat.le_of_ble_eq_true rfl | (simp only [wrap_u8, IntKind.wrap_i64, IntKind.wrap_i32, wrap_u32', wrap_u64', InI]; (repeat' refine And.intro ?_ ?_) <;> omega) | ((repeat' refine And.intro ?_ ?_) <;> first | omega | rfl | exact Nat.le_refl _ | exact Nat.le_of_ble_eq_true rfl | exact bytesF_one _) | (simp_all; done) | (simp_all; omega)))
            | refine e_hit rfl ?_ | refine e_miss rfl ?_
            | with_reducible refine ⟨by kernel_rfl, ?_⟩ | refine x_end rfl ?_ | refine n_end rfl ?_ | ((with_reducible refine c_grd ?_); (fail_if_success (refine c_lit true rfl rfl rfl ?_)); (fail_if_success (refine c_lit false rfl rfl rfl ?_)); refine c_split rfl rfl (fun _ => ?_) (fun _ => ?_)))
          all_goals first
            | rfl
            | trace_state
        · rw [if_neg (fun q => hg ((good_iff L).1 q).2)]
          repeat' (first
            | with_reducible (first | refine t_seq ?_ | refine t_region ?_ | refine c_nil ?_ | refine n_then ?_ | refine t_ret ?_ | refine t_skip ?_ | refine t_exit ?_ | refine t_block ?_ | refine n_block ?_ | refine e_then ?_ | refine x_then ?_ | refine x_block ?_ | refine t_draw ?_)
            | refine r_val rfl rfl True.intro ?_ | refine r_gskip rfl rfl rfl ?_ | refine r_gskip2 rfl rfl rfl ?_ | refine r_gval rfl rfl rfl rfl True.intro ?_
            | refine t_true rfl ?_ | refine t_false rfl ?_
            | ((first | refine t_cond_d rfl ?_ ?_ | refine t_cond_i rfl ?_ ?_ | refine t_cond_j rfl ?_ ?_ | refine t_cond_s rfl ?_ ?_ | refine t_cond_n rfl ?_ ?_ | refine t_cond rfl ?_ ?_ | refine c_split_d rfl rfl ?_ ?_ | refine c_split_i rfl rfl ?_ ?_ | refine c_split_j rfl rfl ?_ ?_ | refine c_split_s rfl rfl ?_ ?_ | refine c_split_n rfl rfl ?_ ?_) <;> intro <;> try (first | (rename_i hz; exact Bool.noConfusion (show true = false from hz)) | (rename_i hz; exact Bool.noConfusion (show false = true from hz)) | (exfalso; omega)))
            | ((first | refine r_val rfl rfl ?_ ?_ | refine r_gval rfl rfl rfl rfl ?_ ?_ | refine r_obj rfl rfl ?_ ?_ | refine r_sto rfl ?_ ?_ | refine r_gobj rfl rfl rfl rfl ?_ ?_); focus (first | omega | exact Nat.le_of_ble_eq_true rfl | (simp only [wrap_u8, IntKind.wrap_i64, IntKind.wrap_i32, wrap_u32', wrap_u64', InI]; (repeat' refine And.intro ?_ ?_) <;> omega) | ((repeat' refine And.intro ?_ ?_) <;> first | omega | rfl | exact Nat.le_refl _ | exact Nat.le_of_ble_eq_true rfl | exact bytesF_one _) | (simp_all; done) | (simp_all; omega)))
            | refine e_hit rfl ?_ | refine e_miss rfl ?_
            | with_reducible refine ⟨by kernel_rfl, ?_⟩ | refine x_end rfl ?_ | refine n_end rfl ?_ | ((with_reducible refine c_grd ?_); (fail_if_success (refine c_lit true rfl rfl rfl ?_)); (fail_if_success (refine c_lit false rfl rfl rfl ?_)); refine c_split rfl rfl (fun _ => ?_) (fun _ => ?_)))
          all_goals rfl

end Go.Proofs.YtghdgjabpdfaoaaDoor.Flow

/- REQ: the law of words. -/
namespace Go.Proofs.YtghdgjabpdfaoaaDoor.Flow
open Go

theorem split_nil : splitL [] [44] = [[]] := by kernel_rfl
theorem split_a1 : splitL [103, 122, 105, 112, 59, 113, 61, 48, 44, 32, 42] [44] = [[103, 122, 105, 112, 59, 113, 61, 48], [32, 42]] := by kernel_rfl
theorem split_a2 : splitL [98, 114, 44, 32, 71, 90, 73, 80, 59, 113, 61, 48, 46, 53] [44] = [[98, 114], [32, 71, 90, 73, 80, 59, 113, 61, 48, 46, 53]] := by kernel_rfl

theorem short2 {a b : List UInt8} (ha : a.length ≤ 100000) (hb : b.length ≤ 100000) (j : Nat) : (([a, b] : List (List UInt8)).getD j []).length ≤ 100000 := by
  match j with
  | 0 => exact ha
  | 1 => exact hb
  | _ + 2 => exact Nat.zero_le _

theorem accepts1 (a : List UInt8) (f : Nat → List D) (hf : f 0 = [.s a]) (ha : a.length ≤ 100000) (hp : ∀ j, ((splitL a [44]).getD j []).length ≤ 100000) : Ctr Tryd.prog 36 [.sl 1 1 f] (.b (accV [a])) :=
  accepts_ctr [a] 1 f rfl (fun i hi => by
    obtain rfl : i = 0 := by simpa using hi
    exact hf) (by simp) (fun i => by
    match i with
    | 0 => exact ha
    | _ + 1 => exact Nat.zero_le _) (fun i j => by
    match i with
    | 0 => exact hp j
    | _ + 1 =>
      show ((splitL [] [44]).getD j []).length ≤ 100000
      rw [split_nil]
      match j with
      | 0 => exact Nat.zero_le _
      | _ + 1 => exact Nat.zero_le _)

theorem acc_a1 : accV [[103, 122, 105, 112, 59, 113, 61, 48, 44, 32, 42]] = false := by kernel_rfl
theorem acc_a2 : accV [[98, 114, 44, 32, 71, 90, 73, 80, 59, 113, 61, 48, 46, 53]] = true := by kernel_rfl

theorem wlive_ctr : Ctr Tryd.prog 14 [] (.b true) := by
  have c1 := accepts1 [103, 122, 105, 112, 59, 113, 61, 48, 44, 32, 42] (chunk 1 [.s [103, 122, 105, 112, 59, 113, 61, 48, 44, 32, 42]]) rfl (by decide) (by rw [split_a1]; exact short2 (by decide) (by decide))
  have c2 := accepts1 [98, 114, 44, 32, 71, 90, 73, 80, 59, 113, 61, 48, 46, 53] (chunk 1 [.s [98, 114, 44, 32, 71, 90, 73, 80, 59, 113, 61, 48, 46, 53]]) rfl (by decide) (by rw [split_a2]; exact short2 (by decide) (by decide))
  rw [acc_a1] at c1
  rw [acc_a2] at c2
  refine r_fun Tryd.func14 rfl Tryd.ntmps14 Tryd.results14 rfl rfl fun X hL hX => ?_
  repeat' (first
    | refine r_call (f := 36) rfl rfl Tryd.call36 rfl c1 ?_ | refine r_gcall (f := 36) rfl rfl rfl rfl Tryd.call36 rfl c2 ?_
    | with_reducible (first | refine t_seq ?_ | refine t_region ?_ | refine c_nil ?_ | refine n_then ?_ | refine t_ret ?_ | refine t_skip ?_ | refine t_exit ?_ | refine t_block ?_ | refine n_block ?_ | refine e_then ?_ | refine x_then ?_ | refine x_block ?_ | refine t_draw ?_)
    | refine r_val rfl rfl True.intro ?_ | refine r_gskip rfl rfl rfl ?_ | refine r_gskip2 rfl rfl rfl ?_ | refine r_gval rfl rfl rfl rfl True.intro ?_
    | refine t_true rfl ?_ | refine t_false rfl ?_
    | ((first | refine t_cond_d rfl ?_ ?_ | refine t_cond_i rfl ?_ ?_ | refine t_cond_j rfl ?_ ?_ | refine t_cond_s rfl ?_ ?_ | refine t_cond_n rfl ?_ ?_ | refine t_cond rfl ?_ ?_ | refine c_split_d rfl rfl ?_ ?_ | refine c_split_i rfl rfl ?_ ?_ | refine c_split_j rfl rfl ?_ ?_ | refine c_split_s rfl rfl ?_ ?_ | refine c_split_n rfl rfl ?_ ?_) <;> intro <;> try (first | contradiction | (exfalso; omega)))
    | ((first | refine r_val rfl rfl ?_ ?_ | refine r_gval rfl rfl rfl rfl ?_ ?_ | refine r_obj rfl rfl ?_ ?_ | refine r_sto rfl ?_ ?_ | refine r_gobj rfl rfl rfl rfl ?_ ?_); focus (first | omega | exact Nat.le_of_ble_eq_true rfl | (simp_all; done) | (simp_all; omega) | ((repeat' refine And.intro ?_ ?_) <;> first | omega | rfl | exact Nat.le_refl _ | exact Nat.le_of_ble_eq_true rfl | exact bytesF_one _ | (simp_all; done) | (simp_all; omega))))
    | refine e_hit rfl ?_ | refine e_miss rfl ?_
    | with_reducible refine ⟨by kernel_rfl, ?_⟩ | refine x_end rfl rfl | refine n_end rfl rfl | ((with_reducible refine c_grd ?_); (fail_if_success (refine c_lit true rfl rfl rfl ?_)); (fail_if_success (refine c_lit false rfl rfl rfl ?_)); refine c_split rfl rfl (fun _ => ?_) (fun _ => ?_)))

end Go.Proofs.YtghdgjabpdfaoaaDoor.Flow

/- REQ: the law of requests. -/
namespace Go.Proofs.YtghdgjabpdfaoaaDoor.Flow
open Go

theorem hdvs_len : ∀ {l : List (List UInt8)} {L : Hv}, hdvs l = some L → L.length = l.length ∧ ∀ m, (∀ s ∈ l, s.length ≤ m) → ∀ p ∈ L, p.2.length ≤ m
  | [], L, h => by
    cases h
    exact ⟨rfl, fun _ _ p hp => by cases hp⟩
  | s :: r, L, h => by
    unfold hdvs at h
    split at h
    · cases hr : hdvs r with
      | none => rw [hr] at h; cases h
      | some M =>
        rw [hr] at h
        cases h
        obtain ⟨h1, h2⟩ := hdvs_len hr
        refine ⟨by simp [h1], fun m hm p hp => ?_⟩
        rcases List.mem_cons.1 hp with rfl | hp
        · exact Nat.le_trans (hdr_len s) (hm s (by simp))
        · exact h2 m (fun s hs => hm s (by simp [hs])) p hp
    · cases h
theorem flat_len {m : Nat} : ∀ {vs : List (List UInt8)}, (∀ v ∈ vs, v.length ≤ m) → (vs.flatMap tagsV).length ≤ vs.length * m
  | [], _ => Nat.zero_le _
  | v :: vs, h => by
    have h1 := flat_len (vs := vs) fun v hv => h v (by simp [hv])
    have h2 := tagsV_len _ v (Nat.le_refl _)
    have h3 := h v (by simp)
    rw [List.flatMap_cons, List.length_append, List.length_cons, Nat.succ_mul]
    omega
theorem parR_len {b : List UInt8} {x : Rq} (hb : b.length ≤ 2000) (h : parR b = some x) : x.2.2.2.2.length ≤ 4000000 := by
  unfold parR at h
  have hlen := linR_len _ b [] [] b.length (Nat.le_refl _) (by simp) (fun v h => by cases h)
  generalize linR [] [] b = LR at *
  obtain ⟨l, ok⟩ := LR
  dsimp only at h hlen
  obtain ⟨hl1, hl2⟩ := hlen
  simp only [List.length_nil, Nat.zero_add] at hl1
  split at h
  · split at h
    · split at h
      · rename_i L hL
        split at h
        · cases h
          obtain ⟨g1, g2⟩ := hdvs_len hL
          rw [List.length_drop] at g1
          have g3 := g2 2000 fun s hs => Nat.le_trans (hl2 s (List.mem_of_mem_drop hs)) hb
          show (tagsA (vof inmK L)).1.length ≤ _
          unfold tagsA
          split
          · exact Nat.zero_le _
          · have g4 := flat_len (m := 2000) (vs := vof inmK L) fun v hv => by
              obtain ⟨p, hp, rfl⟩ := vof_mem hv
              exact g3 p hp
            have g5 := vof_len inmK L
            have g6 : (vof inmK L).length * 2000 ≤ 2000 * 2000 := Nat.mul_le_mul (by omega) (Nat.le_refl _)
            dsimp only
            omega
        · cases h
      · cases h
    · cases h
  · cases h

set_option maxRecDepth 100000 in
set_option maxHeartbeats 2000000 in
theorem reqParses_ctr (b : List UInt8) (hb : b.length ≤ 1048576) : Ctr Tryd.prog 5 [.sl 1 b.length (bytesF b)] (.b true) := by
  have c0 := wlive_ctr
  refine r_fun Tryd.func5 rfl Tryd.ntmps5 Tryd.results5 rfl rfl fun X hL hX => ?_
  by_cases h : b.length ≤ 1500
  · have c1 := parse_ctr b (by omega)
    have c2 := rparse_ctr b (by omega)
    rw [par_both b] at c1
    have hlen : ∀ x, parR b = some x → x.2.2.2.2.length ≤ 100000000 := fun x hx => Nat.le_trans (parR_len (by omega) hx) (by decide)
    cases ho : parR b with
    | none =>
      rw [ho] at c1 c2
      have c3 := same0_ctr
      repeat' (first
        | refine r_call (f := 19) rfl rfl Tryd.call19 rfl c1 ?_ | refine r_call (f := 20) rfl rfl Tryd.call20 rfl c2 ?_ | refine r_call (f := 21) rfl rfl Tryd.call21 rfl c3 ?_ | refine r_call (f := 14) rfl rfl Tryd.call14 rfl c0 ?_ | refine r_gcall (f := 14) rfl rfl rfl rfl Tryd.call14 rfl c0 ?_
        | with_reducible (first | refine t_seq ?_ | refine t_region ?_ | refine c_nil ?_ | refine n_then ?_ | refine t_ret ?_ | refine t_skip ?_ | refine t_exit ?_ | refine t_block ?_ | refine n_block ?_ | refine e_then ?_ | refine x_then ?_ | refine x_block ?_ | refine t_draw ?_)
        | refine r_val rfl rfl True.intro ?_ | refine r_gskip rfl rfl rfl ?_ | refine r_gskip2 rfl rfl rfl ?_ | refine r_gval rfl rfl rfl rfl True.intro ?_
        | refine t_true rfl ?_ | refine t_false rfl ?_
        | ((first | refine t_cond_d rfl ?_ ?_ | refine t_cond_i rfl ?_ ?_ | refine t_cond_j rfl ?_ ?_ | refine t_cond_s rfl ?_ ?_ | refine t_cond_n rfl ?_ ?_ | refine t_cond rfl ?_ ?_ | refine c_split_d rfl rfl ?_ ?_ | refine c_split_i rfl rfl ?_ ?_ | refine c_split_j rfl rfl ?_ ?_ | refine c_split_s rfl rfl ?_ ?_ | refine c_split_n rfl rfl ?_ ?_) <;> intro <;> try (first | (rename_i hz; exact Bool.noConfusion (show true = false from hz)) | (rename_i hz; exact Bool.noConfusion (show false = true from hz)) | (exfalso; omega)))
        | ((first | refine r_val rfl rfl ?_ ?_ | refine r_gval rfl rfl rfl rfl ?_ ?_ | refine r_obj rfl rfl ?_ ?_ | refine r_sto rfl ?_ ?_ | refine r_gobj rfl rfl rfl rfl ?_ ?_); focus (first | omega | exact Nat.le_of_ble_eq_true rfl | (simp only [wrap_u8, IntKind.wrap_i64, IntKind.wrap_i32, wrap_u32', wrap_u64', InI]; (repeat' refine And.intro ?_ ?_) <;> omega) | ((repeat' refine And.intro ?_ ?_) <;> first | omega | rfl | exact Nat.le_refl _ | exact Nat.le_of_ble_eq_true rfl | exact bytesF_one _) | (simp_all; done) | (simp_all; omega)))
        | refine e_hit rfl ?_ | refine e_miss rfl ?_
        | with_reducible refine ⟨by kernel_rfl, ?_⟩ | refine x_end rfl ?_ | refine n_end rfl ?_ | ((with_reducible refine c_grd ?_); (fail_if_success (refine c_lit true rfl rfl rfl ?_)); (fail_if_success (refine c_lit false rfl rfl rfl ?_)); refine c_split rfl rfl (fun _ => ?_) (fun _ => ?_)))
      all_goals rfl
    | some x =>
      have hx := hlen x ho
      rw [ho] at c1 c2
      obtain ⟨m, p, g, a, t⟩ := x
      have c3 := same_ctr m p g a t hx
      repeat' (first
        | refine r_call (f := 19) rfl rfl Tryd.call19 rfl c1 ?_ | refine r_call (f := 20) rfl rfl Tryd.call20 rfl c2 ?_ | refine r_call (f := 21) rfl rfl Tryd.call21 rfl c3 ?_ | refine r_call (f := 14) rfl rfl Tryd.call14 rfl c0 ?_ | refine r_gcall (f := 14) rfl rfl rfl rfl Tryd.call14 rfl c0 ?_
        | with_reducible (first | refine t_seq ?_ | refine t_region ?_ | refine c_nil ?_ | refine n_then ?_ | refine t_ret ?_ | refine t_skip ?_ | refine t_exit ?_ | refine t_block ?_ | refine n_block ?_ | refine e_then ?_ | refine x_then ?_ | refine x_block ?_ | refine t_draw ?_)
        | refine r_val rfl rfl True.intro ?_ | refine r_gskip rfl rfl rfl ?_ | refine r_gskip2 rfl rfl rfl ?_ | refine r_gval rfl rfl rfl rfl True.intro ?_
        | refine t_true rfl ?_ | refine t_false rfl ?_
        | ((first | refine t_cond_d rfl ?_ ?_ | refine t_cond_i rfl ?_ ?_ | refine t_cond_j rfl ?_ ?_ | refine t_cond_s rfl ?_ ?_ | refine t_cond_n rfl ?_ ?_ | refine t_cond rfl ?_ ?_ | refine c_split_d rfl rfl ?_ ?_ | refine c_split_i rfl rfl ?_ ?_ | refine c_split_j rfl rfl ?_ ?_ | refine c_split_s rfl rfl ?_ ?_ | refine c_split_n rfl rfl ?_ ?_) <;> intro <;> try (first | (rename_i hz; exact Bool.noConfusion (show true = false from hz)) | (rename_i hz; exact Bool.noConfusion (show false = true from hz)) | (exfalso; omega)))
        | ((first | refine r_val rfl rfl ?_ ?_ | refine r_gval rfl rfl rfl rfl ?_ ?_ | refine r_obj rfl rfl ?_ ?_ | refine r_sto rfl ?_ ?_ | refine r_gobj rfl rfl rfl rfl ?_ ?_); focus (first | omega | exact Nat.le_of_ble_eq_true rfl | (simp only [wrap_u8, IntKind.wrap_i64, IntKind.wrap_i32, wrap_u32', wrap_u64', InI]; (repeat' refine And.intro ?_ ?_) <;> omega) | ((repeat' refine And.intro ?_ ?_) <;> first | omega | rfl | exact Nat.le_refl _ | exact Nat.le_of_ble_eq_true rfl | exact bytesF_one _) | (simp_all; done) | (simp_all; omega)))
        | refine e_hit rfl ?_ | refine e_miss rfl ?_
        | with_reducible refine ⟨by kernel_rfl, ?_⟩ | refine x_end rfl ?_ | refine n_end rfl ?_ | ((with_reducible refine c_grd ?_); (fail_if_success (refine c_lit true rfl rfl rfl ?_)); (fail_if_success (refine c_lit false rfl rfl rfl ?_)); refine c_split rfl rfl (fun _ => ?_) (fun _ => ?_)))
      all_goals rfl
  · skip
    repeat' (first
      | refine r_call (f := 14) rfl rfl Tryd.call14 rfl c0 ?_
      | with_reducible (first | refine t_seq ?_ | refine t_region ?_ | refine c_nil ?_ | refine n_then ?_ | refine t_ret ?_ | refine t_skip ?_ | refine t_exit ?_ | refine t_block ?_ | refine n_block ?_ | refine e_then ?_ | refine x_then ?_ | refine x_block ?_ | refine t_draw ?_)
      | refine r_val rfl rfl True.intro ?_ | refine r_gskip rfl rfl rfl ?_ | refine r_gskip2 rfl rfl rfl ?_ | refine r_gval rfl rfl rfl rfl True.intro ?_
      | refine t_true rfl ?_ | refine t_false rfl ?_
      | ((first | refine t_cond_d rfl ?_ ?_ | refine t_cond_i rfl ?_ ?_ | refine t_cond_j rfl ?_ ?_ | refine t_cond_s rfl ?_ ?_ | refine t_cond_n rfl ?_ ?_ | refine t_cond rfl ?_ ?_ | refine c_split_d rfl rfl ?_ ?_ | refine c_split_i rfl rfl ?_ ?_ | refine c_split_j rfl rfl ?_ ?_ | refine c_split_s rfl rfl ?_ ?_ | refine c_split_n rfl rfl ?_ ?_) <;> intro <;> try (first | (rename_i hz; exact Bool.noConfusion (show true = false from hz)) | (rename_i hz; exact Bool.noConfusion (show false = true from hz)) | (exfalso; omega)))
      | ((first | refine r_val rfl rfl ?_ ?_ | refine r_gval rfl rfl rfl rfl ?_ ?_ | refine r_obj rfl rfl ?_ ?_ | refine r_sto rfl ?_ ?_ | refine r_gobj rfl rfl rfl rfl ?_ ?_); focus (first | omega | exact Nat.le_of_ble_eq_true rfl | (simp only [wrap_u8, IntKind.wrap_i64, IntKind.wrap_i32, wrap_u32', wrap_u64', InI]; (repeat' refine And.intro ?_ ?_) <;> omega) | ((repeat' refine And.intro ?_ ?_) <;> first | omega | rfl | exact Nat.le_refl _ | exact Nat.le_of_ble_eq_true rfl | exact bytesF_one _) | (simp_all; done) | (simp_all; omega)))
      | refine e_hit rfl ?_ | refine e_miss rfl ?_
      | with_reducible refine ⟨by kernel_rfl, ?_⟩ | refine x_end rfl ?_ | refine n_end rfl ?_ | ((with_reducible refine c_grd ?_); (fail_if_success (refine c_lit true rfl rfl rfl ?_)); (fail_if_success (refine c_lit false rfl rfl rfl ?_)); refine c_split rfl rfl (fun _ => ?_) (fun _ => ?_)))
    all_goals rfl

end Go.Proofs.YtghdgjabpdfaoaaDoor.Flow

/-
  FLOW, PART Q: FROM A CONTRACT TO A STATEMENT: what a call that writes into new memory alone leaves of its arguments.
-/
namespace Go.Proofs.YtghdgjabpdfaoaaDoor.Flow
open Go.ChangeShapes Go.WideShapes Go.ChangeAt Go.RowKit

theorem prog_own : ownKnob Tryd.prog.godebug = none := by kernel_rfl
theorem prog_laid : laidOutB Tryd.prog = true := by kernel_rfl

variable {H : Type} {enc : TypeId × Value → H}

/-- The cells that are there when a call begins. -/
def allOf (W : World) : Cells := fun b _ => b < W.heap.size

theorem below_of_hist {W W' : World} {S' : Cells} (h : Hist { w0 := W, S0 := allOf W, L := fun _ => False } W' S') : Below W.heap.size W W' :=
  ⟨h.os, h.tape, h.output, h.size, fun k hk => h.block k hk (fun h => h)⟩

theorem trodAll_below {W W' : World} (hb : Below W.heap.size W W') {sp : Nat → Bool} : ∀ {ts : List TypeId} {vs : List Value} {ds : List (DataW H)} {ps : List MemPlace}, (∀ t ∈ ts, Tryd.prog.readableRec t = true ∧ t < Tryd.prog.types.size) → (∀ x ∈ ps, x.block < W.heap.size) →
    DataW.TrodAll enc Tryd.prog W 0 (fun _ => true) true ts vs ds ps → (∀ p ∈ ps, sp p.block = true) → DataW.TrodAll enc Tryd.prog W' 0 sp true ts vs ds ps
  | [], [], [], _, _, _, h, _ => h
  | [], [], _ :: _, _, _, _, h, _ => h.elim
  | [], _ :: _, _, _, _, _, h, _ => h.elim
  | _ :: _, [], _, _, _, _, h, _ => h.elim
  | _ :: _, _ :: _, [], _, _, _, h, _ => h.elim
  | t :: ts, v :: vs, d :: ds, ps, ht, hlt, h, hsp => by
    obtain ⟨p, q, h1, h2, rfl⟩ := h
    refine ⟨p, q, ?_, trodAll_below hb (fun t ht' => ht t (by simp [ht'])) (fun x hx => hlt x (by simp [hx])) h2 (fun x hx => hsp x (by simp [hx])), rfl⟩
    exact WideElems.Trod_stays prog_laid (ht t (by simp)).1 (ht t (by simp)).2 h1 (fun x hx => hb.same (hlt x (by simp [hx]))) (fun x hx => hsp x (by simp [hx]))

/-- THE STATEMENT's CONDITION BEHIND A CALL THAT ANSWERS true AND WRITES INTO NEW MEMORY ALONE. -/
theorem law_post {f : Func} {s : ChangeSpec} {apart fresh handsOn : Bool} {W W' : World} {args : Array Value} {ds gs : List (DataW H)} {before : List MemPlace} {t : TypeId}
    (hW : DataW.Whole enc Tryd.prog f.params.toList s.vars apart W args.toList ds gs before) (hvars : s.vars = []) (hpar : ∀ t ∈ f.params.toList, Tryd.prog.readableRec t = true ∧ t < Tryd.prog.types.size)
    (hres : f.resultTypes = #[t]) (ht : Tryd.prog.underlying t = some .bool) (hspec : s.fn H (ds ++ gs) = { results := [.lit (.bool true)], args := ds }) (hb : Below W.heap.size W W') :
    s.post enc Tryd.prog f apart fresh handsOn false W args (.bool true) W' := by
  have hW' := hW
  obtain ⟨p, q, hA, hV, rfl, hfz, hnd⟩ := hW
  rw [hvars] at hV
  have hq : gs = [] ∧ q = [] := by
    cases gs with
    | nil => exact ⟨rfl, hV⟩
    | cons => exact hV.elim
  obtain ⟨rfl, rfl⟩ := hq
  have hlt : ∀ x ∈ p, x.block < W.heap.size := fun x hx => by simpa using hW'.lt x (by simpa using hx)
  refine ⟨ds, [], p ++ [], [], p, [], hW', ?_, ?_, ?_, hb.frame _, fun h => nomatch h⟩
  · rw [hspec, hres]
    exact trodAll_mk1 (shut_bool ht true)
  · rw [hspec]
    exact trodAll_below hb hpar hlt hA (fun x hx => by simpa using hlt x hx)
  · rw [hspec, hvars]
    rfl

end Go.Proofs.YtghdgjabpdfaoaaDoor.Flow

/-
  FLOW, PART R: THE ARGUMENTS OPENED: a reading of them as data tells what the values are.
-/
namespace Go.Proofs.YtghdgjabpdfaoaaDoor.Flow
open Go.ChangeShapes Go.WideShapes Go.ChangeAt Go.RowKit

set_option maxRecDepth 100000
variable {H : Type} {enc : TypeId × Value → H} {W : World}

def strOf : DataW H → List UInt8
  | .lit (.string l) => l
  | _ => []
def intOf : DataW H → Int
  | .lit (.int _ n) => n
  | _ => 0
def boolOf : DataW H → Bool
  | .lit (.bool b) => b
  | _ => false
def kids : DataW H → List (DataW H)
  | .slice es _ => es
  | .agg ps => ps
  | _ => []

/-- What stands in memory for a type's data: so many cells, told by G. -/
def Tells (enc : TypeId × Value → H) (W : World) (t z : Nat) (G : DataW H → List D) : Prop :=
  ∀ fuel cs x, DataW.trod enc Tryd.prog W 0 (fun _ => true) true fuel t cs = some x → cs.length = z ∧ (G x.1).length = z ∧ (G x.1).all D.plain = true ∧ ∀ j, j < z → Rel (allOf W) W noRho ((G x.1).getD j .any) (cs.getD j undef)

theorem tells_str {t : TypeId} (ht : Tryd.prog.underlying t = some .string) : Tells enc W t 1 (fun d => [.s (strOf d)]) := fun fuel cs x h => by
  obtain ⟨s, rfl, rfl, _⟩ := DataW.trod_string ht h
  refine ⟨rfl, rfl, rfl, fun j hj => ?_⟩
  obtain rfl : j = 0 := by omega
  exact .s _ s.data.toList

theorem tells_int {t : TypeId} {k : IntKind} (ht : Tryd.prog.underlying t = some (.int k)) : Tells enc W t 1 (fun d => [.i k (intOf d)]) := fun fuel cs x h => by
  obtain ⟨n, rfl, rfl, _⟩ := DataW.trod_int ht h
  refine ⟨rfl, rfl, rfl, fun j hj => ?_⟩
  obtain rfl : j = 0 := by omega
  exact .i _ k n

theorem tells_bool {t : TypeId} (ht : Tryd.prog.underlying t = some .bool) : Tells enc W t 1 (fun d => [.b (boolOf d)]) := fun fuel cs x h => by
  obtain ⟨b, rfl, rfl⟩ := DataW.trod_bool ht h
  refine ⟨rfl, rfl, rfl, fun j hj => ?_⟩
  obtain rfl : j = 0 := by omega
  exact .b _ b

theorem tells_slice {t e z : Nat} {G : DataW H → List D} (ht : Tryd.prog.underlying t = some (.slice e)) (hc : Tryd.prog.cellsOf e = z) (hz : 0 < z) (hG : Tells enc W e z G) :
    Tells enc W t 1 (fun d => [.sl z (kids d).length (fun i => G ((kids d).getD i .nil))]) := fun fuel cs x h => by
  rcases DataW.trod_slice ht h with ⟨rfl, rfl⟩ | ⟨a, len, cap, elems, rest, n, rfl, rfl, rfl, hb, hl, hm, hlen, hel, _, _⟩
  · refine ⟨rfl, rfl, rfl, fun j hj => ?_⟩
    obtain rfl : j = 0 := by omega
    exact .sl _ z 0 _ none 0 (fun _ _ => undef) (Nat.le_refl _) (by unfold maxLen; omega) (fun i hi => by omega) (fun i j hi => by omega) (fun i j hi => by omega)
  · refine ⟨rfl, rfl, rfl, fun j hj => ?_⟩
    obtain rfl : j = 0 := by omega
    have each : ∀ i, i < len → ∃ cs' y, elems[i]? = some y ∧ W.cells? 0 (a.add (i * z)) z = some cs' ∧ DataW.trod enc Tryd.prog W 0 (fun _ => true) true n e cs' = some y := fun i hi => by
      have h1 := hel i hi
      have hi' : i < elems.length := by omega
      rw [hc, List.getElem?_eq_getElem hi'] at h1
      cases hcs : W.cells? 0 (a.add (i * z)) z with
      | none => rw [hcs] at h1; cases h1
      | some cs' =>
        rw [hcs] at h1
        exact ⟨cs', elems[i], List.getElem?_eq_getElem hi', rfl, h1⟩
    have hlen' : (elems.map (·.1)).length = len := by simp [hlen]
    have hk : ∀ i y, elems[i]? = some y → (elems.map (·.1)).getD i .nil = y.1 := fun i y hy => by
      simp [List.getD_eq_getElem?_getD, hy]
    have hspot : 0 < len → a.spot = none := fun h0 => by
      obtain ⟨cs', y, _, h2, h3⟩ := each 0 h0
      obtain ⟨_, hn, h4⟩ := World.cells?_some h2
      have h5 := h4 0 hz
      have hlt : 0 < cs'.length := by omega
      rw [List.getElem?_eq_getElem hlt] at h5
      cases hsp : a.spot with
      | none => rfl
      | some k =>
        exfalso
        simp only [Nat.zero_mul, Addr.add, if_true, World.cell?, hsp, Option.isSome_some] at h5
        split at h5 <;> simp at h5
    have hcl : ∀ i j, i < len → j < z → ∃ cs' y v, elems[i]? = some y ∧ DataW.trod enc Tryd.prog W 0 (fun _ => true) true n e cs' = some y ∧ cs'[j]? = some v ∧ W.cell? ⟨a.block, a.off + i * z + j, none⟩ = some v := fun i j hi hj => by
      obtain ⟨cs', y, h1, h2, h3⟩ := each i hi
      obtain ⟨_, hn, h4⟩ := World.cells?_some h2
      have h5 := h4 j hj
      have hlt : j < cs'.length := by omega
      rw [List.getElem?_eq_getElem hlt] at h5
      refine ⟨cs', y, cs'[j], h1, h3, List.getElem?_eq_getElem hlt, ?_⟩
      rw [← h5]
      have hsp := hspot (by omega)
      congr 1
      obtain ⟨ab, ao, asp⟩ := a
      simp only at hsp
      subst hsp
      simp only [Addr.add]
      split <;> split <;> simp_all <;> omega
    have hcell := fun i j hi hj => hcl i j hi hj
    show Rel (allOf W) W noRho (.sl z (elems.map (·.1)).length (fun i => G ((elems.map (·.1)).getD i .nil))) (.slice (some a) len cap)
    rw [hlen']
    refine .sl _ z len _ (some a) cap (fun i j => (W.cell? ⟨a.block, a.off + i * z + j, none⟩).getD undef) (by omega) hm (fun i hi => ?_) (fun i j hi hj => ?_) (fun i j hi hj => ?_)
    · obtain ⟨cs', y, h1, _, h3⟩ := each i hi
      rw [hk i y h1]
      have := hG _ _ _ h3
      exact ⟨this.2.1, this.2.2.1⟩
    · obtain ⟨cs', y, v, _, _, _, h4⟩ := hcl i j hi hj
      refine ⟨a.block, a.off, ?_, ?_, by rw [h4]; rfl⟩
      · have hsp := hspot (by omega)
        obtain ⟨ab, ao, asp⟩ := a
        simp only at hsp
        subst hsp
        rfl
      · show a.block < W.heap.size
        unfold World.cell? at h4
        split at h4
        · rename_i hh
          exact (Array.getElem?_eq_some_iff.1 hh).1
        · cases h4
    · obtain ⟨cs', y, v, h1, h2, h3, h4⟩ := hcl i j hi hj
      rw [hk i y h1, h4]
      have := (hG _ _ _ h2).2.2.2 j hj
      rw [List.getD_eq_getElem?_getD (l := cs'), h3] at this
      exact this

/-- A struct's fields, one behind the other. -/
inductive TellsF (enc : TypeId × Value → H) (W : World) : List Field → Nat → List (DataW H → List D) → Nat → Prop
  | nil (off : Nat) : TellsF enc W [] off [] off
  | cons (f : Field) (fs : List Field) (off z N : Nat) (G : DataW H → List D) (Gs : List (DataW H → List D)) (ho : f.offset = off) (hc : Tryd.prog.cellsOf f.type = z) (hG : Tells enc W f.type z G) (h : TellsF enc W fs (off + z) Gs N) : TellsF enc W (f :: fs) off (G :: Gs) N

def catG : List (DataW H → List D) → List (DataW H) → List D
  | [], _ => []
  | g :: r, l => g (l.getD 0 .nil) ++ catG r (l.drop 1)

/-! ### Arguments -/
theorem arg_str {base : Nat} {t : TypeId} {v : Value} {d : DataW H} {ps : List MemPlace} (ht : Tryd.prog.underlying t = some .string) (hv : Value.okWide Tryd.prog W .any base t v) (h : DataW.Trod enc Tryd.prog W 0 (fun _ => true) true t v d ps) : Rel (allOf W) W noRho (.s (strOf d)) v := by
  obtain ⟨s, rfl⟩ := okWide_string ht hv
  obtain ⟨fuel, hf⟩ := h
  have := (tells_str ht _ _ _ hf).2.2.2 0 (by omega)
  exact this
theorem arg_int {base : Nat} {t : TypeId} {k : IntKind} {v : Value} {d : DataW H} {ps : List MemPlace} (ht : Tryd.prog.underlying t = some (.int k)) (hv : Value.okWide Tryd.prog W .any base t v) (h : DataW.Trod enc Tryd.prog W 0 (fun _ => true) true t v d ps) : Rel (allOf W) W noRho (.i k (intOf d)) v := by
  obtain ⟨s, rfl⟩ := okWide_int ht hv
  obtain ⟨fuel, hf⟩ := h
  have := (tells_int ht _ _ _ hf).2.2.2 0 (by omega)
  exact this
theorem arg_bool {base : Nat} {t : TypeId} {v : Value} {d : DataW H} {ps : List MemPlace} (ht : Tryd.prog.underlying t = some .bool) (hv : Value.okWide Tryd.prog W .any base t v) (h : DataW.Trod enc Tryd.prog W 0 (fun _ => true) true t v d ps) : Rel (allOf W) W noRho (.b (boolOf d)) v := by
  obtain ⟨s, rfl⟩ := okWide_bool ht hv
  obtain ⟨fuel, hf⟩ := h
  have := (tells_bool ht _ _ _ hf).2.2.2 0 (by omega)
  exact this
theorem arg_slice {base : Nat} {t e z : Nat} {v : Value} {d : DataW H} {ps : List MemPlace} {G : DataW H → List D} (ht : Tryd.prog.underlying t = some (.slice e)) (hc : Tryd.prog.cellsOf e = z) (hz : 0 < z) (hG : Tells enc W e z G)
    (hv : Value.okWide Tryd.prog W .any base t v) (h : DataW.Trod enc Tryd.prog W 0 (fun _ => true) true t v d ps) : Rel (allOf W) W noRho (.sl z (kids d).length (fun i => G ((kids d).getD i .nil))) v := by
  obtain ⟨a, len, cap, rfl⟩ := okWide_slice ht hv
  obtain ⟨fuel, hf⟩ := h
  have := (tells_slice ht hc hz hG _ _ _ hf).2.2.2 0 (by omega)
  exact this
theorem arg_struct {base : Nat} {t z : Nat} {fs : Array Field} {v : Value} {d : DataW H} {ps : List MemPlace} {G : DataW H → List D} (ht : Tryd.prog.underlying t = some (.struct fs)) (hG : Tells enc W t z G)
    (hv : Value.okWide Tryd.prog W .any base t v) (h : DataW.Trod enc Tryd.prog W 0 (fun _ => true) true t v d ps) : Rel (allOf W) W noRho (.ag (G d)) v := by
  obtain ⟨cs, rfl, hs⟩ := okWide_struct ht hv
  obtain ⟨fuel, hf⟩ := h
  obtain ⟨h1, h2, h3, h4⟩ := hG _ _ _ hf
  replace h2 : (G d).length = z := h2
  have h1' : cs.size = z := by simpa [Value.cells] using h1
  refine .ag _ _ cs (by omega) (fun j hj => ?_)
  have := h4 j (by omega)
  simpa [Value.cells, Array.getD_eq_getD_getElem?, List.getD_eq_getElem?_getD] using this

/-! ### How much there is -/
theorem bulk_one (d : DataW H) : 1 ≤ Rows.uptoBulk d := by
  cases d with
  | lit l => cases l <;> simp [Rows.uptoBulk]
  | _ => simp [Rows.uptoBulk]

theorem bulk_len : ∀ (l : List (DataW H)), l.length ≤ Rows.uptoBulkAll l
  | [] => by simp
  | x :: r => by
    have := bulk_one x
    have := bulk_len r
    simp only [Rows.uptoBulkAll, List.length_cons]
    omega

theorem bulk_kids (d : DataW H) : Rows.uptoBulkAll (kids d) ≤ Rows.uptoBulk d := by
  cases d <;> simp [kids, Rows.uptoBulk, Rows.uptoBulkAll] <;> omega

/-- The same told by typed data. -/
theorem map_getD {α β : Type} (f : α → β) (l : List α) (a : α) (i : Nat) : (l.map f).getD i (f a) = f (l.getD i a) := by
  simp only [List.getD_eq_getElem?_getD, List.getElem?_map]
  cases l[i]? <;> rfl

end Go.Proofs.YtghdgjabpdfaoaaDoor.Flow

/- ARGUMENTS: a slice of bytes. -/
namespace Go.Proofs.YtghdgjabpdfaoaaDoor.Flow
open Go Go.RowKit

section
variable {H : Type} {enc : TypeId × Value → H} {W : World}

def oct (d : DataW H) : UInt8 := UInt8.ofNat (intOf d).toNat
def octs (d : DataW H) : List UInt8 := (kids d).map oct

theorem tells_oct {t : TypeId} (ht : Tryd.prog.underlying t = some (.int .u8)) : Tells enc W t 1 (fun d => [.i .u8 ((oct d).toNat : Int)]) := fun fuel cs x h => by
  obtain ⟨n, rfl, rfl, hw⟩ := DataW.trod_int ht h
  refine ⟨rfl, rfl, rfl, fun j hj => ?_⟩
  obtain rfl : j = 0 := by omega
  have e1 : IntKind.u8.min ≤ n ∧ n ≤ IntKind.u8.max := by simpa [Lit.wf] using hw
  have e2 : IntKind.u8.min = 0 := by decide
  have e3 : IntKind.u8.max = 255 := by decide
  have e : ((oct (H := H) (.lit (.int .u8 n))).toNat : Int) = n := by
    show ((UInt8.ofNat n.toNat).toNat : Int) = n
    rw [UInt8.toNat_ofNat']
    omega
  dsimp only
  rw [e]
  exact .i _ .u8 n

theorem octs_told (l : List (DataW H)) : D.sl 1 l.length (fun i => [D.i .u8 ((oct (l.getD i .nil)).toNat : Int)]) = .sl 1 (l.map oct).length (bytesF (l.map oct)) := by
  rw [List.length_map]
  congr 1
  funext i
  have e0 : oct (DataW.nil : DataW H) = 0 := rfl
  have e : (l.map oct).getD i 0 = oct (l.getD i .nil) := by rw [← e0]; exact map_getD oct l .nil i
  unfold bytesF
  rw [e]

set_option maxRecDepth 100000 in
theorem arg_octs {base : Nat} {v : Value} {d : DataW H} {ps : List MemPlace} (hv : Value.okWide Tryd.prog W .any base 22 v) (h : DataW.Trod enc Tryd.prog W 0 (fun _ => true) true 22 v d ps) :
    Rel (allOf W) W noRho (.sl 1 (octs d).length (bytesF (octs d))) v := by
  have k := arg_slice (enc := enc) Tryd.underlying22 (by kernel_rfl) (by omega) (tells_oct Tryd.underlying5) hv h
  rwa [octs_told] at k

theorem octs_len {d : DataW H} (h : Rows.uptoBulk d ≤ 1048576) : (octs d).length ≤ 1048576 := by
  have := Nat.le_trans (bulk_len (kids d)) (bulk_kids d)
  unfold octs
  rw [List.length_map]
  omega
end

end Go.Proofs.YtghdgjabpdfaoaaDoor.Flow

/- LAID: of this seat's tables none is told; a row's condition tells that the package bytealg's number is there. -/
namespace Go.Proofs.YtghdgjabpdfaoaaDoor.Flow
open Go.ChangeShapes Go.WideShapes Go.ChangeAt Go.RowKit

abbrev seatLaid : List (String × DataW Unit) := [("unicode/utf8.acceptRanges", Rows.laid_unicode_utf8_acceptRanges), ("unicode/utf8.first", Rows.laid_unicode_utf8_first)]

theorem valid_of_cell {W : World} {b o : Nat} {x : Value} (h : W.cell? ⟨b, o, none⟩ = some x) : allOf W b o := by
  show b < W.heap.size
  by_cases hb : b < W.heap.size
  · exact hb
  · simp [World.cell?, Array.getElem?_eq_none (Nat.le_of_not_lt hb)] at h

set_option maxRecDepth 100000 in
theorem max_there {W : World} (h : W.ShapedOpen Tryd.prog) : ∃ m, W.cell? ⟨0, 0, none⟩ = some (.int .i64 m) :=
  Go.Proofs.cell_of_shapedOpen_int (zero := #[.int .i64 0]) (t := 3) h (of_decide_eq_true (by kernel_rfl)) (by kernel_rfl) rfl (by kernel_rfl) (by kernel_rfl) Tryd.underlying3

theorem gok_of_shape {W : World} (h : W.ShapedOpen Tryd.prog) : GOk (allOf W) W :=
  ⟨fun _ => .any .., fun _ _ h => (by cases h), fun g hg => by
    unfold globSome at hg
    split at hg
    · obtain ⟨m, hm⟩ := max_there h
      exact ⟨m, valid_of_cell hm, hm⟩
    · cases hg⟩

end Go.Proofs.YtghdgjabpdfaoaaDoor.Flow
