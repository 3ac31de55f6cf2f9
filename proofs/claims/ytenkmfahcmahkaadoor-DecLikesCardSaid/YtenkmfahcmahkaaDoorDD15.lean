/- DEC: a right decimal's text, with a space and anything behind it, is read as it was. -/
import Derived.Test.YtenkmfahcmahkaaDoorDD14
import Derived.Test.YtenkmfahcmahkaaDoorDD11
import Derived.Test.YtenkmfahcmahkaaDoorDD8
namespace Go.Proofs.YtenkmfahcmahkaaDoor.Flow
open Go

section
variable {x r ds : List UInt8} {a : UInt8} {i : Nat}

theorem drop_lt {l : List UInt8} (h : x.drop i = a :: l) : i < x.length := by
  by_cases hi : i < x.length
  · exact hi
  · rw [List.drop_eq_nil_of_le (by omega)] at h
    cases h

theorem drop_at (h : x.drop i = a :: r) : at' x i = (a.toNat : Int) := by
  have hi := drop_lt h
  rw [drop_cons hi] at h
  have := (List.cons.inj h).1
  unfold at'
  rw [Int.toNat_natCast, this]

theorem sat_of {c : Int} (h : x.drop i = a :: r) : sat x i c ↔ (a.toNat : Int) = c := by
  unfold sat
  rw [drop_at h]
  exact ⟨fun h => h.2, fun h2 => ⟨drop_lt h, h2⟩⟩

theorem drop_app (h : x.drop i = ds ++ r) : x.drop (i + ds.length) = r := by
  rw [← List.drop_drop, h, List.drop_left]

theorem takeWhile_all {p : UInt8 → Bool} : ∀ {ds : List UInt8}, (∀ c ∈ ds, p c = true) → p a = false → (ds ++ a :: r).takeWhile p = ds
  | [], _, h => by simp [h]
  | c :: ds, h, h2 => by
    rw [List.cons_append, List.takeWhile_cons, if_pos (h c (by simp)), takeWhile_all (fun c hc => h c (by simp [hc])) h2]

theorem dgT_of (h : x.drop i = ds ++ a :: r) (hd : ∀ c ∈ ds, isD c = true) (ha : isD a = false) : dgT x i = ds := by
  unfold dgT
  rw [h]
  exact takeWhile_all hd ha

theorem whN_dig {c : UInt8} (h : x.drop i = c :: ds ++ a :: r) (hc : ¬ c = 48) (hd : ∀ b ∈ c :: ds, isD b = true) (ha : isD a = false) : whN x i = (c :: ds, i + (c :: ds).length) := by
  rw [whN_neg, dgT_of h hd ha]
  rw [sat_of (r := ds ++ a :: r) h]
  exact fun h => hc ((u8_eq (n := 48) (by omega)).1 h)

theorem whN_zero (h : x.drop i = 48 :: r) : whN x i = ([48], i + 1) := whN_pos ((sat_of h).2 rfl)

theorem frN_none (h : x.drop i = a :: r) (ha : ¬ (a.toNat : Int) = 46) : frN x i = ([], i) := frN_neg (.inl fun h2 => ha ((sat_of h).1 h2))

theorem frN_some (h : x.drop i = 46 :: (ds ++ a :: r)) (hd : ∀ b ∈ ds, isD b = true) (ha : isD a = false) (h0 : ¬ ds = []) : frN x i = (ds, i + 1 + ds.length) := by
  have h1 : x.drop (i + 1) = ds ++ a :: r := drop_app (ds := [46]) h
  have h2 := dgT_of h1 hd ha
  rw [frN_pos ((sat_of h).2 rfl) (by rw [h2]; exact h0), h2]

theorem exN_none {pw : List UInt8 → Int} (h : x.drop i = a :: r) (ha : ¬ (a.toNat : Int) = 101) (hb : ¬ (a.toNat : Int) = 69) : exN pw x i = (0, i) := exN_neg (.inl fun h2 => by
  rw [sat_of h, sat_of h] at h2
  omega)

theorem powP_num (k : Nat) (h : k ≤ 1000000) : powP (Lib.decDigits k) = k := by
  induction k using Nat.strongRecOn with
  | ind k ih =>
    by_cases h2 : k < 10
    · rw [dec_small h2]
      have e : powP [UInt8.ofNat (48 + k)] = min (10 * 0 + (((UInt8.ofNat (48 + k)).toNat : Int) - 48)) 1099511627776 := rfl
      rw [e, (isD_dig h2).2]
      omega
    · rw [dec_step h2, powP_snoc, ih (k / 10) (by omega) (by omega), (isD_dig (by omega)).2]
      omega

theorem exN_some {k : Int} (h : x.drop i = 101 :: (Lib.itoa k ++ a :: r)) (ha : isD a = false) (h0 : -1000000 ≤ k) (h1 : k ≤ 1000000) : exN powP x i = (k, i + 1 + (Lib.itoa k).length) := by
  have hs := (sat_of (c := 101) h).2 rfl
  have h2 : x.drop (i + 1) = Lib.itoa k ++ a :: r := drop_app (ds := [101]) h
  unfold Lib.itoa at h2 ⊢
  by_cases hk : k < 0
  · rw [if_pos hk] at h2 ⊢
    have h3 : x.drop (i + 1 + 1) = Lib.decDigits k.natAbs ++ a :: r := drop_app (ds := [45]) h2
    have h45 := (sat_of (c := 45) h2).2 rfl
    have hg : sgN x (i + 1) = i + 1 + 1 := if_pos (.inr h45)
    have hd := dgT_of h3 (dec_isD _) ha
    rw [exN_pos (.inl hs) (by
      rw [hg, hd]
      obtain ⟨c, l, hc, _⟩ := dec_first k.natAbs (by omega)
      rw [hc]
      simp), hg, hd, if_pos h45, powP_num _ (by omega)]
    refine Prod.ext ?_ ?_
    · show -((k.natAbs : Nat) : Int) = k
      omega
    · show i + 1 + 1 + _ = i + 1 + (_ :: _).length
      rw [List.length_cons]
      omega
  · rw [if_neg hk] at h2 ⊢
    have hne : ∃ c l, Lib.decDigits k.toNat = c :: l := by
      by_cases h9 : k.toNat < 10
      · exact ⟨_, [], dec_small h9⟩
      · obtain ⟨c, l, hc, _⟩ := dec_first k.toNat (by omega)
        exact ⟨c, l, hc⟩
    have hd := dgT_of h2 (dec_isD _) ha
    obtain ⟨c, l, hc⟩ := hne
    have hcd := isD_nat (dec_isD k.toNat c (by rw [hc]; simp))
    have h4 : x.drop (i + 1) = c :: (l ++ a :: r) := by rw [h2, hc]; rfl
    have hg : sgN x (i + 1) = i + 1 := if_neg (by rw [sat_of h4, sat_of h4]; omega)
    rw [exN_pos (.inl hs) (by rw [hg, hd, hc]; simp), hg, hd, if_neg (by rw [sat_of h4]; omega), powP_num _ (by omega)]
    refine Prod.ext ?_ rfl
    show ((k.toNat : Nat) : Int) = k
    omega

theorem parse_of {pw : List UInt8 → Int} {g i1 i2 i3 : Nat} {neg : Bool} {w f : List UInt8} {k : Int} {d : Bool × List UInt8 × Int} (hg : sg0 x = g) (hn : decide (sat x 0 45) = neg) (hw : whN x g = (w, i1)) (h0 : ¬ w = []) (hf : frN x i1 = (f, i2))
    (hx : exN pw x i2 = (k, i3)) (hr : normF neg (w ++ f) (k - f.length) = (d, 0)) : parseG pw x = (d, i3, 0) := by
  unfold parseG
  rw [hg, hw]
  dsimp only
  rw [if_neg h0, hf]
  dsimp only
  rw [hx, hn]
  dsimp only
  rw [hr]
  rfl

end

theorem digs_mem {s : List UInt8} (h : digs s) : ∀ c ∈ s, isD c = true := fun c hc => by
  obtain ⟨i, hi, rfl⟩ := List.getElem_of_mem hc
  have := h i hi
  unfold at' at this
  simp only [Int.toNat_natCast, List.getD_eq_getElem?_getD, List.getElem?_eq_getElem hi, Option.getD_some] at this
  exact isD_iff.2 this

/-- A right decimal is in its form. -/
theorem norm_right {neg : Bool} {c : UInt8} {m : List UInt8} {e : Int} (h : RightP neg (c :: m) e) (z t : Nat) (e' : Int) (he : e' + t = e) : normF neg (zs z ++ ((c :: m) ++ zs t)) e' = ((neg, c :: m, e), 0) := by
  have hk := right_last h
  have h0 : ¬ (c :: m).length = 0 := by simp
  have hb := h.bounds
  rw [right_cons h0] at h
  have hc : ¬ c = 48 := fun hc => h.2.2.1 (by rw [hc]; rfl)
  have e1 : tR (zs z ++ ((c :: m) ++ zs t)) = zs z ++ (c :: m) := by
    rw [← List.append_assoc, tR_zs]
    refine lastOk_tR fun d q hq => ?_
    rcases snoc_casesU (c :: m) with h2 | ⟨q2, w, h2⟩
    · simp at h2
    · rw [h2, ← List.append_assoc] at hq
      have := List.append_inj_right' hq rfl
      have := (List.cons.inj this).1
      rw [← this]
      exact hk w q2 h2
  unfold normF
  rw [e1, tL_zs, tL_ne hc, if_neg h0, if_neg (by omega), if_neg (by simp only [List.length_append, List.length_replicate]; omega)]
  simp only [List.length_append, List.length_replicate]
  refine Prod.ext (Prod.ext rfl (Prod.ext rfl ?_)) rfl
  dsimp only
  omega

theorem space_no : isD 32 = false := by decide

/-- The sign ahead of digits. -/
abbrev sgL (neg : Bool) : List UInt8 := if neg = true then [45] else []

theorem sg_of (neg : Bool) {c : UInt8} {r : List UInt8} (hc : isD c = true) : sg0 (sgL neg ++ c :: r) = (sgL neg).length ∧ decide (sat (sgL neg ++ c :: r) 0 45) = neg ∧ (sgL neg ++ c :: r).drop (sgL neg).length = c :: r := by
  have hc := isD_nat hc
  refine ⟨?_, ?_, List.drop_left⟩
  · cases neg with
    | true =>
      unfold sg0
      rw [if_pos]
      · rfl
      · exact (sat_of (a := 45) (r := c :: r) rfl).2 rfl
    | false =>
      unfold sg0
      rw [if_neg]
      · rfl
      · show ¬ sat (c :: r) 0 45
        rw [sat_of (a := c) (r := r) rfl]
        omega
  · cases neg with
    | true =>
      exact decide_eq_true ((sat_of (a := 45) (r := c :: r) rfl).2 rfl)
    | false =>
      refine decide_eq_false ?_
      show ¬ sat (c :: r) 0 45
      rw [sat_of (a := c) (r := r) rfl]
      omega

theorem textU_parse (neg : Bool) (s : List UInt8) (e : Int) (h : RightP neg s e) (h0 : ¬ s.length = 0) (b : List UInt8) :
    parseG powP (sgL neg ++ (textU s e ++ 32 :: b)) = ((neg, s, e), (sgL neg ++ textU s e).length, 0) := by
  match s, h0 with
  | [], h0 => exact absurd rfl h0
  | c :: m, h0 =>
  have hb := h.bounds
  have hd := digs_mem hb.2.2.2
  have hr := norm_right h
  have hR := h
  rw [right_cons h0] at hR
  have hc : ¬ c = 48 := fun hc => hR.2.2.1 (by rw [hc]; rfl)
  have hc0 := hd c (by simp)
  clear hR
  by_cases k1 : 0 ≤ e ∧ (c :: m).length + e ≤ 21
  · rw [textU_1 k1.1 k1.2]
    obtain ⟨g1, g2, g3⟩ := sg_of neg (c := c) (r := m ++ zs e.toNat ++ 32 :: b) hc0
    have ex : sgL neg ++ ((c :: m) ++ zs e.toNat ++ 32 :: b) = sgL neg ++ c :: (m ++ zs e.toNat ++ 32 :: b) := by simp
    rw [ex]
    generalize sgL neg ++ c :: (m ++ zs e.toNat ++ 32 :: b) = x at *
    have hdz : ∀ b ∈ c :: (m ++ zs e.toNat), isD b = true := fun b hb => by
      rw [← List.cons_append] at hb
      rcases List.mem_append.1 hb with hb | hb
      · exact hd b hb
      · rw [List.eq_of_mem_replicate hb]
        rfl
    have g3 : x.drop (sgL neg).length = c :: (m ++ zs e.toNat) ++ 32 :: b := by rw [g3]; simp
    have w1 := whN_dig g3 hc hdz space_no
    have d2 := drop_app g3
    have f1 := frN_none d2 (by decide)
    have x1 := exN_none (pw := powP) d2 (by decide) (by decide)
    have r1 := hr 0 e.toNat 0 (by omega)
    have e2 : (sgL neg ++ ((c :: m) ++ zs e.toNat)).length = (sgL neg).length + (c :: (m ++ zs e.toNat)).length := by simp
    rw [e2]
    refine parse_of g1 g2 w1 (by simp) f1 x1 ?_
    simpa using r1
  · by_cases k2 : 1 ≤ (c :: m).length + e ∧ (c :: m).length + e < (c :: m).length
    · rw [textU_2 k1 k2.1 k2.2]
      obtain ⟨p, hp⟩ : ∃ p : Nat, ((c :: m).length + e).toNat = p + 1 := ⟨((c :: m).length + e).toNat - 1, by omega⟩
      rw [hp, List.take_succ_cons, List.drop_succ_cons]
      obtain ⟨g1, g2, g3⟩ := sg_of neg (c := c) (r := m.take p ++ 46 :: (m.drop p ++ 32 :: b)) hc0
      have ex : sgL neg ++ (c :: m.take p ++ [46] ++ m.drop p ++ 32 :: b) = sgL neg ++ c :: (m.take p ++ 46 :: (m.drop p ++ 32 :: b)) := by simp
      rw [ex]
      generalize sgL neg ++ c :: (m.take p ++ 46 :: (m.drop p ++ 32 :: b)) = x at *
      have hd1 : ∀ b ∈ c :: m.take p, isD b = true := fun b hb => hd b (by
        rcases List.mem_cons.1 hb with rfl | hb
        · simp
        · exact List.mem_cons_of_mem _ (List.mem_of_mem_take hb))
      have hd2 : ∀ b ∈ m.drop p, isD b = true := fun b hb => hd b (List.mem_cons_of_mem _ (List.mem_of_mem_drop hb))
      have hlm : p < m.length := by simp only [List.length_cons] at k2 hp; omega
      have hne : ¬ m.drop p = [] := fun h => by
        have := congrArg List.length h
        simp at this
        omega
      have g3 : x.drop (sgL neg).length = c :: m.take p ++ 46 :: (m.drop p ++ 32 :: b) := by rw [g3]; simp
      have w1 := whN_dig g3 hc hd1 (by decide)
      have d2 := drop_app g3
      have f1 := frN_some d2 hd2 space_no hne
      have d3 : x.drop ((sgL neg).length + (c :: m.take p).length + 1 + (m.drop p).length) = 32 :: b := drop_app (drop_app (ds := [46]) d2)
      have x1 := exN_none (pw := powP) d3 (by decide) (by decide)
      have r1 := hr 0 0 (0 - ((m.drop p).length : Int)) (by simp only [List.length_drop, List.length_cons] at *; omega)
      have e2 : (sgL neg ++ (c :: m.take p ++ [46] ++ m.drop p)).length = (sgL neg).length + (c :: m.take p).length + 1 + (m.drop p).length := by
        simp only [List.length_append, List.length_cons, List.length_nil]
        omega
      rw [e2]
      refine parse_of g1 g2 w1 (by simp) f1 x1 ?_
      have e3 : c :: m.take p ++ m.drop p = zs 0 ++ ((c :: m) ++ zs 0) := by simp
      rw [e3]
      exact r1
    · by_cases k3 : -6 ≤ (c :: m).length + e ∧ (c :: m).length + e ≤ 0
      · rw [textU_3 k1 k3.1 k3.2]
        generalize hz : (-((c :: m).length + e)).toNat = z
        obtain ⟨g1, g2, g3⟩ := sg_of neg (c := 48) (r := 46 :: ((zs z ++ (c :: m)) ++ 32 :: b)) (by decide)
        have ex : sgL neg ++ ([48, 46] ++ zs z ++ (c :: m) ++ 32 :: b) = sgL neg ++ 48 :: 46 :: ((zs z ++ (c :: m)) ++ 32 :: b) := by simp
        rw [ex]
        generalize sgL neg ++ 48 :: 46 :: ((zs z ++ (c :: m)) ++ 32 :: b) = x at *
        have hd1 : ∀ b ∈ zs z ++ (c :: m), isD b = true := fun b hb => by
          rcases List.mem_append.1 hb with hb | hb
          · rw [List.eq_of_mem_replicate hb]
            rfl
          · exact hd b hb
        have w1 := whN_zero g3
        have d2 : x.drop ((sgL neg).length + 1) = 46 :: ((zs z ++ (c :: m)) ++ 32 :: b) := drop_app (ds := [48]) g3
        have f1 := frN_some d2 hd1 space_no (by simp)
        have d3 : x.drop ((sgL neg).length + 1 + 1 + (zs z ++ (c :: m)).length) = 32 :: b := drop_app (drop_app (ds := [46]) d2)
        have x1 := exN_none (pw := powP) d3 (by decide) (by decide)
        have r1 := hr (z + 1) 0 (0 - ((zs z ++ (c :: m)).length : Int)) (by simp only [List.length_append, List.length_replicate]; omega)
        have e2 : (sgL neg ++ ([48, 46] ++ zs z ++ (c :: m))).length = (sgL neg).length + 1 + 1 + (zs z ++ (c :: m)).length := by
          simp only [List.length_append, List.length_cons, List.length_nil]
          omega
        rw [e2]
        refine parse_of g1 g2 w1 (by simp) f1 x1 ?_
        have e3 : [48] ++ (zs z ++ (c :: m)) = zs (z + 1) ++ ((c :: m) ++ zs 0) := by simp [List.replicate_succ]
        rw [e3]
        exact r1
      · rw [textU_4 k1 k2 k3]
        have q0 : -1000000 ≤ ((c :: m).length : Int) + e - 1 := by omega
        have q1 : ((c :: m).length : Int) + e - 1 ≤ 1000000 := by omega
        have hI : ((c :: m).length : Int) + e - 1 - m.length = e := by simp only [List.length_cons]; omega
        generalize ((c :: m).length : Int) + e - 1 = k at *
        match m with
        | [] =>
          have ex : sgL neg ++ ([c].take 1 ++ (if 1 < [c].length then [46] ++ [c].drop 1 else []) ++ [101] ++ Lib.itoa k ++ 32 :: b) = sgL neg ++ c :: 101 :: (Lib.itoa k ++ 32 :: b) := by simp
          obtain ⟨g1, g2, g3⟩ := sg_of neg (c := c) (r := 101 :: (Lib.itoa k ++ 32 :: b)) hc0
          rw [ex]
          generalize sgL neg ++ c :: 101 :: (Lib.itoa k ++ 32 :: b) = x at *
          have w1 := whN_dig (ds := []) g3 hc hd (by decide)
          have d2 : x.drop ((sgL neg).length + [c].length) = 101 :: (Lib.itoa k ++ 32 :: b) := drop_app (ds := [c]) g3
          have f1 := frN_none d2 (by decide)
          have x1 := exN_some d2 space_no q0 q1
          have r1 := hr 0 0 (k - 0) (by simp at hI ⊢; omega)
          have e2 : (sgL neg ++ ([c].take 1 ++ (if 1 < [c].length then [46] ++ [c].drop 1 else []) ++ [101] ++ Lib.itoa k)).length = (sgL neg).length + [c].length + 1 + (Lib.itoa k).length := by
            simp
            omega
          rw [e2]
          refine parse_of g1 g2 w1 (by simp) f1 x1 ?_
          simpa using r1
        | d :: m =>
          have hdd := isD_nat (hd d (by simp))
          have ex : sgL neg ++ ((c :: d :: m).take 1 ++ (if 1 < (c :: d :: m).length then [46] ++ (c :: d :: m).drop 1 else []) ++ [101] ++ Lib.itoa k ++ 32 :: b) = sgL neg ++ c :: 46 :: ((d :: m) ++ 101 :: (Lib.itoa k ++ 32 :: b)) := by simp
          obtain ⟨g1, g2, g3⟩ := sg_of neg (c := c) (r := 46 :: ((d :: m) ++ 101 :: (Lib.itoa k ++ 32 :: b))) hc0
          rw [ex]
          generalize sgL neg ++ c :: 46 :: ((d :: m) ++ 101 :: (Lib.itoa k ++ 32 :: b)) = x at *
          have hd1 : ∀ b ∈ d :: m, isD b = true := fun b hb => hd b (List.mem_cons_of_mem _ hb)
          have w1 := whN_dig (ds := []) g3 hc (fun b hb => hd b (by rw [List.mem_singleton.1 hb]; simp)) (by decide)
          have d2 : x.drop ((sgL neg).length + [c].length) = 46 :: ((d :: m) ++ 101 :: (Lib.itoa k ++ 32 :: b)) := drop_app (ds := [c]) g3
          have f1 := frN_some d2 hd1 (by decide) (by simp)
          have d3 : x.drop ((sgL neg).length + [c].length + 1 + (d :: m).length) = 101 :: (Lib.itoa k ++ 32 :: b) := drop_app (drop_app (ds := [46]) d2)
          have x1 := exN_some d3 space_no q0 q1
          have r1 := hr 0 0 (k - ((d :: m).length : Int)) (by omega)
          have e2 : (sgL neg ++ ((c :: d :: m).take 1 ++ (if 1 < (c :: d :: m).length then [46] ++ (c :: d :: m).drop 1 else []) ++ [101] ++ Lib.itoa k)).length = (sgL neg).length + [c].length + 1 + (d :: m).length + 1 + (Lib.itoa k).length := by
            simp
            omega
          rw [e2]
          refine parse_of g1 g2 w1 (by simp) f1 x1 ?_
          have e3 : [c] ++ (d :: m) = zs 0 ++ ((c :: d :: m) ++ zs 0) := by simp
          rw [e3]
          exact r1

theorem text_parse (neg : Bool) (s : List UInt8) (e : Int) (h : RightP neg s e) (b : List UInt8) : parseG powP (textF neg s e ++ 32 :: b) = ((neg, s, e), (textF neg s e).length, 0) := by
  unfold textF
  rw [if_neg (fun h2 => h2 h)]
  by_cases h0 : s.length = 0
  · rw [if_pos h0]
    obtain ⟨rfl, rfl⟩ := (right_nil h0).1 h
    obtain rfl := len_nil h0
    have d0 : ([48] ++ 32 :: b).drop 0 = 48 :: 32 :: b := rfl
    have w1 := whN_zero d0
    have d1 : ([48] ++ 32 :: b).drop (0 + 1) = 32 :: b := rfl
    exact parse_of (neg := false) (by unfold sg0; rw [if_neg (by rw [sat_of d0]; decide)]) (decide_eq_false (by rw [sat_of d0]; decide)) w1 (by simp) (frN_none d1 (by decide)) (exN_none d1 (by decide) (by decide)) (norm_zero false _)
  · rw [if_neg h0, List.append_assoc]
    exact textU_parse neg s e h h0 b

end Go.Proofs.YtenkmfahcmahkaaDoor.Flow
