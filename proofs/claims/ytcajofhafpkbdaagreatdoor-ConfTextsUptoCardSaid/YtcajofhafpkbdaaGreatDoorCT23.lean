/- The texts D15, J23, J24, D13, D7, D9, D17a, D17, DP, LibsC, D21, D18, one behind the other. -/
import Derived.Test.YtcajofhafpkbdaaGreatDoorCT11
import Derived.Test.YtcajofhafpkbdaaGreatDoorCT14
import Derived.Test.YtcajofhafpkbdaaGreatDoorCT18
import Derived.Test.YtcajofhafpkbdaaGreatDoorCT21
import Derived.Test.YtcajofhafpkbdaaGreatDoorCT22
namespace Go.Proofs.YtcajofhafpkbdaaGreatDoor.Flow
open Go
section
variable {x r ds : List UInt8} {a : UInt8} {i : Nat}
theorem zpb {l : List UInt8} (h : x.drop i = a :: l) : i < x.length := by
  by_cases hi : i < x.length
  · exact hi
  · rw [List.drop_eq_nil_of_le (by omega)] at h
    cases h
theorem zsD (h : x.drop i = a :: r) : at' x i = (a.toNat : Int) := by
  have hi := zpb h
  rw [zdn hi] at h
  have := (List.cons.inj h).1
  unfold at'
  rw [Int.toNat_natCast, this]
theorem zbM {c : Int} (h : x.drop i = a :: r) : sat x i c ↔ (a.toNat : Int) = c := by
  unfold sat
  rw [zsD h]
  exact ⟨fun h => h.2, fun h2 => ⟨zpb h, h2⟩⟩
theorem zbk (h : x.drop i = ds ++ r) : x.drop (i + ds.length) = r := by
  rw [← List.drop_drop, h, List.drop_left]
theorem zew {p : UInt8 → Bool} : ∀ {ds : List UInt8}, (∀ c ∈ ds, p c = true) → p a = false → (ds ++ a :: r).takeWhile p = ds
  | [], _, h => by simp [h]
  | c :: ds, h, h2 => by
    rw [List.cons_append, List.takeWhile_cons, if_pos (h c (by simp)), zew (fun c hc => h c (by simp [hc])) h2]
theorem zla (h : x.drop i = ds ++ a :: r) (hd : ∀ c ∈ ds, isD c = true) (ha : isD a = false) : dgT x i = ds := by
  unfold dgT
  rw [h]
  exact zew hd ha
theorem zhQ {c : UInt8} (h : x.drop i = c :: ds ++ a :: r) (hc : ¬ c = 48) (hd : ∀ b ∈ c :: ds, isD b = true) (ha : isD a = false) : whN x i = (c :: ds, i + (c :: ds).length) := by
  rw [zoU, zla h hd ha]
  rw [zbM (r := ds ++ a :: r) h]
  exact fun h => hc ((znw (n := 48) (by omega)).1 h)
theorem zlv (h : x.drop i = 48 :: r) : whN x i = ([48], i + 1) := zno ((zbM h).2 rfl)
theorem zhC (h : x.drop i = a :: r) (ha : ¬ (a.toNat : Int) = 46) : frN x i = ([], i) := zon (.inl fun h2 => ha ((zbM h).1 h2))
theorem zir (h : x.drop i = 46 :: (ds ++ a :: r)) (hd : ∀ b ∈ ds, isD b = true) (ha : isD a = false) (h0 : ¬ ds = []) : frN x i = (ds, i + 1 + ds.length) := by
  have h1 : x.drop (i + 1) = ds ++ a :: r := zbk (ds := [46]) h
  have h2 := zla h1 hd ha
  rw [znj ((zbM h).2 rfl) (by rw [h2]; exact h0), h2]
theorem zfp {pw : List UInt8 → Int} (h : x.drop i = a :: r) (ha : ¬ (a.toNat : Int) = 101) (hb : ¬ (a.toNat : Int) = 69) : exN pw x i = (0, i) := zkt (.inl fun h2 => by
  rw [zbM h, zbM h] at h2
  omega)
theorem zkQ (k : Nat) (h : k ≤ 1000000) : powP (Lib.decDigits k) = k := by
  induction k using Nat.strongRecOn with
  | ind k ih =>
    by_cases h2 : k < 10
    · rw [zbz h2]
      have e : powP [UInt8.ofNat (48 + k)] = min (10 * 0 + (((UInt8.ofNat (48 + k)).toNat : Int) - 48)) 1099511627776 := rfl
      rw [e, (zed h2).2]
      omega
    · rw [zdx h2, zjC, ih (k / 10) (by omega) (by omega), (zed (by omega)).2]
      omega
theorem zkZ {k : Int} (h : x.drop i = 101 :: (Lib.itoa k ++ a :: r)) (ha : isD a = false) (h0 : -1000000 ≤ k) (h1 : k ≤ 1000000) : exN powP x i = (k, i + 1 + (Lib.itoa k).length) := by
  have hs := (zbM (c := 101) h).2 rfl
  have h2 : x.drop (i + 1) = Lib.itoa k ++ a :: r := zbk (ds := [101]) h
  unfold Lib.itoa at h2 ⊢
  by_cases hk : k < 0
  · rw [if_pos hk] at h2 ⊢
    have h3 : x.drop (i + 1 + 1) = Lib.decDigits k.natAbs ++ a :: r := zbk (ds := [45]) h2
    have h45 := (zbM (c := 45) h2).2 rfl
    have hg : sgN x (i + 1) = i + 1 + 1 := if_pos (.inr h45)
    have hd := zla h3 (zhy _) ha
    rw [zkv (.inl hs) (by
      rw [hg, hd]
      obtain ⟨c, l, hc, _⟩ := zgp k.natAbs (by omega)
      rw [hc]
      simp), hg, hd, if_pos h45, zkQ _ (by omega)]
    refine Prod.ext ?_ ?_
    · show -((k.natAbs : Nat) : Int) = k
      omega
    · show i + 1 + 1 + _ = i + 1 + (_ :: _).length
      rw [List.length_cons]
      omega
  · rw [if_neg hk] at h2 ⊢
    have hne : ∃ c l, Lib.decDigits k.toNat = c :: l := by
      by_cases h9 : k.toNat < 10
      · exact ⟨_, [], zbz h9⟩
      · obtain ⟨c, l, hc, _⟩ := zgp k.toNat (by omega)
        exact ⟨c, l, hc⟩
    have hd := zla h2 (zhy _) ha
    obtain ⟨c, l, hc⟩ := hne
    have hcd := zhz (zhy k.toNat c (by rw [hc]; simp))
    have h4 : x.drop (i + 1) = c :: (l ++ a :: r) := by rw [h2, hc]; rfl
    have hg : sgN x (i + 1) = i + 1 := if_neg (by rw [zbM h4, zbM h4]; omega)
    rw [zkv (.inl hs) (by rw [hg, hd, hc]; simp), hg, hd, if_neg (by rw [zbM h4]; omega), zkQ _ (by omega)]
    refine Prod.ext ?_ rfl
    show ((k.toNat : Nat) : Int) = k
    omega
theorem zdR {pw : List UInt8 → Int} {g i1 i2 i3 : Nat} {neg : Bool} {w f : List UInt8} {k : Int} {d : Bool × List UInt8 × Int} (hg : sg0 x = g) (hn : decide (sat x 0 45) = neg) (hw : whN x g = (w, i1)) (h0 : ¬ w = []) (hf : frN x i1 = (f, i2))
    (hx : exN pw x i2 = (k, i3)) (hr : normF neg (w ++ f) (k - f.length) = (d, 0)) : parseG pw x = (d, i3, 0) := by
  unfold parseG
  rw [hg, hw]
  dsimp only
  rw [if_neg h0, hf]
  dsimp only
  rw [hx, hn]
  dsimp only
  rw [hr]
  rfl
end
theorem zqB {s : List UInt8} (h : digs s) : ∀ c ∈ s, isD c = true := fun c hc => by
  obtain ⟨i, hi, rfl⟩ := List.getElem_of_mem hc
  have := h i hi
  unfold at' at this
  simp only [Int.toNat_natCast, List.getD_eq_getElem?_getD, List.getElem?_eq_getElem hi, Option.getD_some] at this
  exact zbE.2 this
theorem zmY {neg : Bool} {c : UInt8} {m : List UInt8} {e : Int} (h : RightP neg (c :: m) e) (z t : Nat) (e' : Int) (he : e' + t = e) : normF neg (zs z ++ ((c :: m) ++ zs t)) e' = ((neg, c :: m, e), 0) := by
  have hk := zms h
  have h0 : ¬ (c :: m).length = 0 := by simp
  have hb := h.bounds
  rw [zaP h0] at h
  have hc : ¬ c = 48 := fun hc => h.2.2.1 (by rw [hc]; rfl)
  have e1 : tR (zs z ++ ((c :: m) ++ zs t)) = zs z ++ (c :: m) := by
    rw [← List.append_assoc, tR_zs]
    refine znM fun d q hq => ?_
    rcases zbv (c :: m) with h2 | ⟨q2, w, h2⟩
    · simp at h2
    · rw [h2, ← List.append_assoc] at hq
      have := List.append_inj_right' hq rfl
      have := (List.cons.inj this).1
      rw [← this]
      exact hk w q2 h2
  unfold normF
  rw [e1, tL_zs, ztt hc, if_neg h0, if_neg (by omega), if_neg (by simp only [List.length_append, List.length_replicate]; omega)]
  simp only [List.length_append, List.length_replicate]
  refine Prod.ext (Prod.ext rfl (Prod.ext rfl ?_)) rfl
  dsimp only
  omega
theorem zeH : isD 32 = false := by decide
abbrev sgL (neg : Bool) : List UInt8 := if neg = true then [45] else []
theorem zpA (neg : Bool) {c : UInt8} {r : List UInt8} (hc : isD c = true) : sg0 (sgL neg ++ c :: r) = (sgL neg).length ∧ decide (sat (sgL neg ++ c :: r) 0 45) = neg ∧ (sgL neg ++ c :: r).drop (sgL neg).length = c :: r := by
  have hc := zhz hc
  refine ⟨?_, ?_, List.drop_left⟩
  · cases neg with
    | true =>
      unfold sg0
      rw [if_pos]
      · rfl
      · exact (zbM (a := 45) (r := c :: r) rfl).2 rfl
    | false =>
      unfold sg0
      rw [if_neg]
      · rfl
      · show ¬ sat (c :: r) 0 45
        rw [zbM (a := c) (r := r) rfl]
        omega
  · cases neg with
    | true =>
      exact decide_eq_true ((zbM (a := 45) (r := c :: r) rfl).2 rfl)
    | false =>
      refine decide_eq_false ?_
      show ¬ sat (c :: r) 0 45
      rw [zbM (a := c) (r := r) rfl]
      omega
theorem zjT (neg : Bool) (s : List UInt8) (e : Int) (h : RightP neg s e) (h0 : ¬ s.length = 0) (b : List UInt8) :
    parseG powP (sgL neg ++ (textU s e ++ 32 :: b)) = ((neg, s, e), (sgL neg ++ textU s e).length, 0) := by
  match s, h0 with
  | [], h0 => exact absurd rfl h0
  | c :: m, h0 =>
  have hb := h.bounds
  have hd := zqB hb.2.2.2
  have hr := zmY h
  have hR := h
  rw [zaP h0] at hR
  have hc : ¬ c = 48 := fun hc => hR.2.2.1 (by rw [hc]; rfl)
  have hc0 := hd c (by simp)
  clear hR
  by_cases k1 : 0 ≤ e ∧ (c :: m).length + e ≤ 21
  · rw [zkD k1.1 k1.2]
    obtain ⟨g1, g2, g3⟩ := zpA neg (c := c) (r := m ++ zs e.toNat ++ 32 :: b) hc0
    have ex : sgL neg ++ ((c :: m) ++ zs e.toNat ++ 32 :: b) = sgL neg ++ c :: (m ++ zs e.toNat ++ 32 :: b) := by simp
    rw [ex]
    generalize sgL neg ++ c :: (m ++ zs e.toNat ++ 32 :: b) = x at *
    have hdz : ∀ b ∈ c :: (m ++ zs e.toNat), isD b = true := fun b hb => by
      rw [← List.cons_append] at hb
      rcases List.mem_append.1 hb with hb | hb
      · exact hd b hb
      · rw [List.eq_of_mem_replicate hb]
        rfl
    have g3 : x.drop (sgL neg).length = c :: (m ++ zs e.toNat) ++ 32 :: b := by rw [g3]; simp
    have w1 := zhQ g3 hc hdz zeH
    have d2 := zbk g3
    have f1 := zhC d2 (by decide)
    have x1 := zfp (pw := powP) d2 (by decide) (by decide)
    have r1 := hr 0 e.toNat 0 (by omega)
    have e2 : (sgL neg ++ ((c :: m) ++ zs e.toNat)).length = (sgL neg).length + (c :: (m ++ zs e.toNat)).length := by simp
    rw [e2]
    refine zdR g1 g2 w1 (by simp) f1 x1 ?_
    simpa using r1
  · by_cases k2 : 1 ≤ (c :: m).length + e ∧ (c :: m).length + e < (c :: m).length
    · rw [zkE k1 k2.1 k2.2]
      obtain ⟨p, hp⟩ : ∃ p : Nat, ((c :: m).length + e).toNat = p + 1 := ⟨((c :: m).length + e).toNat - 1, by omega⟩
      rw [hp, List.take_succ_cons, List.drop_succ_cons]
      obtain ⟨g1, g2, g3⟩ := zpA neg (c := c) (r := m.take p ++ 46 :: (m.drop p ++ 32 :: b)) hc0
      have ex : sgL neg ++ (c :: m.take p ++ [46] ++ m.drop p ++ 32 :: b) = sgL neg ++ c :: (m.take p ++ 46 :: (m.drop p ++ 32 :: b)) := by simp
      rw [ex]
      generalize sgL neg ++ c :: (m.take p ++ 46 :: (m.drop p ++ 32 :: b)) = x at *
      have hd1 : ∀ b ∈ c :: m.take p, isD b = true := fun b hb => hd b (by
        rcases List.mem_cons.1 hb with rfl | hb
        · simp
        · exact List.mem_cons_of_mem _ (List.mem_of_mem_take hb))
      have hd2 : ∀ b ∈ m.drop p, isD b = true := fun b hb => hd b (List.mem_cons_of_mem _ (List.mem_of_mem_drop hb))
      have hlm : p < m.length := by simp only [List.length_cons] at k2 hp; omega
      have hne : ¬ m.drop p = [] := fun h => by
        have := congrArg List.length h
        simp at this
        omega
      have g3 : x.drop (sgL neg).length = c :: m.take p ++ 46 :: (m.drop p ++ 32 :: b) := by rw [g3]; simp
      have w1 := zhQ g3 hc hd1 (by decide)
      have d2 := zbk g3
      have f1 := zir d2 hd2 zeH hne
      have d3 : x.drop ((sgL neg).length + (c :: m.take p).length + 1 + (m.drop p).length) = 32 :: b := zbk (zbk (ds := [46]) d2)
      have x1 := zfp (pw := powP) d3 (by decide) (by decide)
      have r1 := hr 0 0 (0 - ((m.drop p).length : Int)) (by simp only [List.length_drop, List.length_cons] at *; omega)
      have e2 : (sgL neg ++ (c :: m.take p ++ [46] ++ m.drop p)).length = (sgL neg).length + (c :: m.take p).length + 1 + (m.drop p).length := by
        simp only [List.length_append, List.length_cons, List.length_nil]
        omega
      rw [e2]
      refine zdR g1 g2 w1 (by simp) f1 x1 ?_
      have e3 : c :: m.take p ++ m.drop p = zs 0 ++ ((c :: m) ++ zs 0) := by simp
      rw [e3]
      exact r1
    · by_cases k3 : -6 ≤ (c :: m).length + e ∧ (c :: m).length + e ≤ 0
      · rw [zjS k1 k3.1 k3.2]
        generalize hz : (-((c :: m).length + e)).toNat = z
        obtain ⟨g1, g2, g3⟩ := zpA neg (c := 48) (r := 46 :: ((zs z ++ (c :: m)) ++ 32 :: b)) (by decide)
        have ex : sgL neg ++ ([48, 46] ++ zs z ++ (c :: m) ++ 32 :: b) = sgL neg ++ 48 :: 46 :: ((zs z ++ (c :: m)) ++ 32 :: b) := by simp
        rw [ex]
        generalize sgL neg ++ 48 :: 46 :: ((zs z ++ (c :: m)) ++ 32 :: b) = x at *
        have hd1 : ∀ b ∈ zs z ++ (c :: m), isD b = true := fun b hb => by
          rcases List.mem_append.1 hb with hb | hb
          · rw [List.eq_of_mem_replicate hb]
            rfl
          · exact hd b hb
        have w1 := zlv g3
        have d2 : x.drop ((sgL neg).length + 1) = 46 :: ((zs z ++ (c :: m)) ++ 32 :: b) := zbk (ds := [48]) g3
        have f1 := zir d2 hd1 zeH (by simp)
        have d3 : x.drop ((sgL neg).length + 1 + 1 + (zs z ++ (c :: m)).length) = 32 :: b := zbk (zbk (ds := [46]) d2)
        have x1 := zfp (pw := powP) d3 (by decide) (by decide)
        have r1 := hr (z + 1) 0 (0 - ((zs z ++ (c :: m)).length : Int)) (by simp only [List.length_append, List.length_replicate]; omega)
        have e2 : (sgL neg ++ ([48, 46] ++ zs z ++ (c :: m))).length = (sgL neg).length + 1 + 1 + (zs z ++ (c :: m)).length := by
          simp only [List.length_append, List.length_cons, List.length_nil]
          omega
        rw [e2]
        refine zdR g1 g2 w1 (by simp) f1 x1 ?_
        have e3 : [48] ++ (zs z ++ (c :: m)) = zs (z + 1) ++ ((c :: m) ++ zs 0) := by simp [List.replicate_succ]
        rw [e3]
        exact r1
      · rw [zkh k1 k2 k3]
        have q0 : -1000000 ≤ ((c :: m).length : Int) + e - 1 := by omega
        have q1 : ((c :: m).length : Int) + e - 1 ≤ 1000000 := by omega
        have hI : ((c :: m).length : Int) + e - 1 - m.length = e := by simp only [List.length_cons]; omega
        generalize ((c :: m).length : Int) + e - 1 = k at *
        match m with
        | [] =>
          have ex : sgL neg ++ ([c].take 1 ++ (if 1 < [c].length then [46] ++ [c].drop 1 else []) ++ [101] ++ Lib.itoa k ++ 32 :: b) = sgL neg ++ c :: 101 :: (Lib.itoa k ++ 32 :: b) := by simp
          obtain ⟨g1, g2, g3⟩ := zpA neg (c := c) (r := 101 :: (Lib.itoa k ++ 32 :: b)) hc0
          rw [ex]
          generalize sgL neg ++ c :: 101 :: (Lib.itoa k ++ 32 :: b) = x at *
          have w1 := zhQ (ds := []) g3 hc hd (by decide)
          have d2 : x.drop ((sgL neg).length + [c].length) = 101 :: (Lib.itoa k ++ 32 :: b) := zbk (ds := [c]) g3
          have f1 := zhC d2 (by decide)
          have x1 := zkZ d2 zeH q0 q1
          have r1 := hr 0 0 (k - 0) (by simp at hI ⊢; omega)
          have e2 : (sgL neg ++ ([c].take 1 ++ (if 1 < [c].length then [46] ++ [c].drop 1 else []) ++ [101] ++ Lib.itoa k)).length = (sgL neg).length + [c].length + 1 + (Lib.itoa k).length := by
            simp
            omega
          rw [e2]
          refine zdR g1 g2 w1 (by simp) f1 x1 ?_
          simpa using r1
        | d :: m =>
          have hdd := zhz (hd d (by simp))
          have ex : sgL neg ++ ((c :: d :: m).take 1 ++ (if 1 < (c :: d :: m).length then [46] ++ (c :: d :: m).drop 1 else []) ++ [101] ++ Lib.itoa k ++ 32 :: b) = sgL neg ++ c :: 46 :: ((d :: m) ++ 101 :: (Lib.itoa k ++ 32 :: b)) := by simp
          obtain ⟨g1, g2, g3⟩ := zpA neg (c := c) (r := 46 :: ((d :: m) ++ 101 :: (Lib.itoa k ++ 32 :: b))) hc0
          rw [ex]
          generalize sgL neg ++ c :: 46 :: ((d :: m) ++ 101 :: (Lib.itoa k ++ 32 :: b)) = x at *
          have hd1 : ∀ b ∈ d :: m, isD b = true := fun b hb => hd b (List.mem_cons_of_mem _ hb)
          have w1 := zhQ (ds := []) g3 hc (fun b hb => hd b (by rw [List.mem_singleton.1 hb]; simp)) (by decide)
          have d2 : x.drop ((sgL neg).length + [c].length) = 46 :: ((d :: m) ++ 101 :: (Lib.itoa k ++ 32 :: b)) := zbk (ds := [c]) g3
          have f1 := zir d2 hd1 (by decide) (by simp)
          have d3 : x.drop ((sgL neg).length + [c].length + 1 + (d :: m).length) = 101 :: (Lib.itoa k ++ 32 :: b) := zbk (zbk (ds := [46]) d2)
          have x1 := zkZ d3 zeH q0 q1
          have r1 := hr 0 0 (k - ((d :: m).length : Int)) (by omega)
          have e2 : (sgL neg ++ ((c :: d :: m).take 1 ++ (if 1 < (c :: d :: m).length then [46] ++ (c :: d :: m).drop 1 else []) ++ [101] ++ Lib.itoa k)).length = (sgL neg).length + [c].length + 1 + (d :: m).length + 1 + (Lib.itoa k).length := by
            simp
            omega
          rw [e2]
          refine zdR g1 g2 w1 (by simp) f1 x1 ?_
          have e3 : [c] ++ (d :: m) = zs 0 ++ ((c :: d :: m) ++ zs 0) := by simp
          rw [e3]
          exact r1
theorem zmE (neg : Bool) (s : List UInt8) (e : Int) (h : RightP neg s e) (b : List UInt8) : parseG powP (textF neg s e ++ 32 :: b) = ((neg, s, e), (textF neg s e).length, 0) := by
  unfold textF
  rw [if_neg (fun h2 => h2 h)]
  by_cases h0 : s.length = 0
  · rw [if_pos h0]
    obtain ⟨rfl, rfl⟩ := (zcA h0).1 h
    obtain rfl := zif h0
    have d0 : ([48] ++ 32 :: b).drop 0 = 48 :: 32 :: b := rfl
    have w1 := zlv d0
    have d1 : ([48] ++ 32 :: b).drop (0 + 1) = 32 :: b := rfl
    exact zdR (neg := false) (by unfold sg0; rw [if_neg (by rw [zbM d0]; decide)]) (decide_eq_false (by rw [zbM d0]; decide)) w1 (by simp) (zhC d1 (by decide)) (zfp d1 (by decide) (by decide)) (zfN false _)
  · rw [if_neg h0, List.append_assoc]
    exact zjT neg s e h h0 b

mutual
def textJ : J → List UInt8
  | .mk k y n d e t l ks => if k = 0 then nullW else if k = 1 then (if y = true then trueW else falseW) else if k = 2 then textF n d e else if k = 3 then quoteL t
    else if k = 4 then [91] ++ partsT false true l ks ++ [93] else [123] ++ partsT (decide (k = 5)) true l ks ++ [125]
def partsT (mp : Bool) : Bool → List J → List (List UInt8) → List UInt8
  | _, [], _ => []
  | first, x :: r, ks => aheadT mp first ks ++ textJ x ++ partsT mp false r ks.tail
end
theorem zsy : endsNum 32 := by decide
theorem zjv (neg : Bool) (s : List UInt8) (e : Int) (h : RightP neg s e) (b : List UInt8) (hb : b = [] ∨ ∃ a r, b = a :: r ∧ endsNum a) : parseG powP (textF neg s e ++ b) = ((neg, s, e), (textF neg s e).length, 0) := by
  have h1 := zmE neg s e h []
  rw [zjs zsy] at h1
  rcases hb with rfl | ⟨a, r, rfl, ha⟩
  · rw [List.append_nil]
    exact h1
  · rw [zjs ha]
    exact h1

theorem zjU {pw : List UInt8 → Int} {s : List UInt8} (h : (parseG pw s).2.2 = 0) : ∃ c r, s = c :: r ∧ (c = 45 ∨ isD c = true) := by
  by_cases h45 : sat s 0 45
  · match s, h45 with
    | c :: r, h45 => exact ⟨c, r, rfl, .inl (by
        have : ((c.toNat : Nat) : Int) = 45 := h45.2
        exact UInt8.toNat_inj.1 (by show c.toNat = 45; omega))⟩
    | [], h45 => exact absurd h45.1 (Nat.lt_irrefl _)
  · have e0 : sg0 s = 0 := if_neg h45
    have hw : ¬ (whN s 0).1 = [] := fun q => by
      unfold parseG at h
      rw [e0, if_pos q] at h
      cases h
    match s, hw with
    | [], hw => exact absurd rfl hw
    | c :: r, hw =>
      refine ⟨c, r, rfl, .inr ?_⟩
      cases hc : isD c with
      | true => rfl
      | false =>
        exfalso
        apply hw
        unfold whN
        rw [if_neg (fun q => zrK hc q.2)]
        show dgT (c :: r) 0 = []
        unfold dgT
        rw [List.drop_zero, List.takeWhile_cons, hc]
        rfl
theorem zji {neg : Bool} {s : List UInt8} {e : Int} (h : RightP neg s e) : ∃ c r, textF neg s e = c :: r ∧ (c = 45 ∨ isD c = true) := by
  have := zjv neg s e h [] (.inl rfl)
  rw [List.append_nil] at this
  exact zjU (by rw [this])
def begins (c : UInt8) : Prop := c = 110 ∨ c = 116 ∨ c = 102 ∨ c = 34 ∨ c = 91 ∨ c = 123 ∨ c = 45 ∨ isD c = true
theorem zgw {c : UInt8} (h : begins c) : blkB c = false ∧ ¬ (c.toNat : Int) = 93 ∧ ¬ (c.toNat : Int) = 125 := by
  rcases h with rfl | rfl | rfl | rfl | rfl | rfl | rfl | h
  · decide
  · decide
  · decide
  · decide
  · decide
  · decide
  · decide
  · have := zbE.1 h
    refine ⟨decide_eq_false fun q => ?_, by omega, by omega⟩
    rcases q with rfl | rfl | rfl | rfl <;> revert h <;> decide
theorem zft {neg : Bool} {s : List UInt8} {e : Int} (h : rightB neg s e = true) : RightP neg s e := of_decide_eq_true h
theorem zcD {d : Nat} {x : J} (h : rightJ d x = true) : ∃ c r, textJ x = c :: r ∧ begins c := by
  cases d with
  | zero => cases h
  | succ d =>
    obtain ⟨k, y, n, dg, e, t, l, ks⟩ := x
    rw [zbU] at h
    rw [textJ]
    by_cases k0 : k = 0
    · subst k0
      exact ⟨110, [117, 108, 108], rfl, .inl rfl⟩
    rw [if_neg k0]
    by_cases k1 : k = 1
    · subst k1
      rw [if_pos rfl]
      cases y with
      | true => exact ⟨116, [114, 117, 101], rfl, .inr (.inl rfl)⟩
      | false => exact ⟨102, [97, 108, 115, 101], rfl, .inr (.inr (.inl rfl))⟩
    rw [if_neg k1]
    rw [if_neg (fun q => q.elim k0 k1)] at h
    by_cases k2 : k = 2
    · subst k2
      rw [if_pos rfl] at h ⊢
      obtain ⟨c, r, h1, h2⟩ := zji (zft h)
      exact ⟨c, r, h1, h2.elim (fun q => by rw [q]; exact .inr (.inr (.inr (.inr (.inr (.inr (.inl rfl))))))) fun q => .inr (.inr (.inr (.inr (.inr (.inr (.inr q))))))⟩
    rw [if_neg k2] at h ⊢
    by_cases k3 : k = 3
    · subst k3
      rw [if_pos rfl] at h ⊢
      obtain ⟨r, h1⟩ := zcd h
      exact ⟨34, r, h1, .inr (.inr (.inr (.inl rfl)))⟩
    rw [if_neg k3]
    by_cases k4 : k = 4
    · subst k4
      exact ⟨91, _, rfl, .inr (.inr (.inr (.inr (.inl rfl))))⟩
    rw [if_neg k4]
    exact ⟨123, _, rfl, .inr (.inr (.inr (.inr (.inr (.inl rfl)))))⟩
theorem zkm (mp : Bool) (x : J) (l : List J) (ks : List (List UInt8)) : partsT mp false (x :: l) ks = 44 :: partsT mp true (x :: l) ks := by
  rw [partsT, partsT, zpB]
  rfl
def Back (d : Nat) : Prop := ∀ x, rightJ d x = true → ∀ s i b, s.drop i = textJ x ++ b → (b = [] ∨ ∃ a r, b = a :: r ∧ endsNum a) → ∃ y, jval s d i = .inl (y, i + (textJ x).length) ∧ sameJ x y = true
theorem znn {d : Nat} (ih : Back d) (mp : Bool) : ∀ (l : List J) (x : J) (ks kacc : List (List UInt8)) (acc : List J) (s : List UInt8) (i : Nat) (b : List UInt8), s.drop i = partsT mp true (x :: l) ks ++ endU mp :: b → (∀ y ∈ x :: l, rightJ d y = true) →
    (mp = true → ks.length = l.length + 1 ∧ (kacc ++ ks).Nodup ∧ ∀ k ∈ ks, validL k = true) →
    ∃ l', l'.length = l.length + 1 ∧ sameL (x :: l) l' = true ∧ jgo s (jval s d) mp i acc kacc = .inl (manyV mp (acc ++ l') (if mp = true then kacc ++ ks else kacc), i + (partsT mp true (x :: l) ks).length + 1) := by
  intro l
  induction l with
  | nil =>
    intro x ks kacc acc s i b h hr hk
    rw [partsT, partsT, List.append_nil] at h ⊢
    have hne : ∃ c r, s.drop i = c :: r := by
      obtain ⟨c, r, h1, _⟩ := zcD (hr x (by simp))
      rw [h, h1]
      cases ha : aheadT mp true ks with
      | nil => exact ⟨_, _, rfl⟩
      | cons c r => exact ⟨_, _, rfl⟩
    obtain ⟨c0, r0, h0⟩ := hne
    have hi := zkx h0
    rw [List.append_assoc] at h
    have k1 := ziW (kacc := kacc) h (fun q => by
      obtain ⟨q1, q2, q3⟩ := hk q
      match ks, q1 with
      | k :: kr, _ => exact ⟨k, kr, rfl, fun q => (List.nodup_append.1 q2).2.2 k q k (by simp) rfl, q3 k (by simp)⟩)
    have d1 := zfh h
    obtain ⟨y, v1, sm⟩ := ih x (hr x (by simp)) s _ _ d1 (.inr ⟨_, _, rfl, (zdh mp).1⟩)
    have d2 := zfh d1
    have p2 := zcN d2 (zdh mp).2.1
    have a2 := zhE d2
    rw [(zdh mp).2.2] at a2
    refine ⟨[y], rfl, by rw [sameL, sm, sameL]; rfl, ?_⟩
    rw [zdV (zcb s d) hi, k1]
    dsimp only
    rw [v1]
    dsimp only
    rw [p2]
    dsimp only
    rw [if_pos a2]
    refine congrArg Sum.inl (Prod.ext ?_ ?_)
    · dsimp only
      cases mp with
      | false => rfl
      | true =>
        obtain ⟨q1, _⟩ := hk rfl
        match ks, q1 with
        | [k], _ => rfl
    · dsimp only
      rw [List.length_append]
      omega
  | cons x2 l il =>
    intro x ks kacc acc s i b h hr hk
    rw [partsT, zkm] at h ⊢
    have hne : ∃ c r, s.drop i = c :: r := by
      obtain ⟨c, r, h1, _⟩ := zcD (hr x (by simp))
      rw [h, h1]
      cases ha : aheadT mp true ks with
      | nil => exact ⟨_, _, rfl⟩
      | cons c r => exact ⟨_, _, rfl⟩
    obtain ⟨c0, r0, h0⟩ := hne
    have hi := zkx h0
    rw [List.append_assoc, List.append_assoc] at h
    have k1 := ziW (kacc := kacc) h (fun q => by
      obtain ⟨q1, q2, q3⟩ := hk q
      match ks, q1 with
      | k :: kr, _ => exact ⟨k, kr, rfl, fun q => (List.nodup_append.1 q2).2.2 k q k (by simp) rfl, q3 k (by simp)⟩)
    have d1 := zfh h
    obtain ⟨y, v1, sm⟩ := ih x (hr x (by simp)) s _ _ d1 (.inr ⟨44, _, rfl, by decide⟩)
    have d2 := zfh d1
    have p2 := zcN d2 (by decide)
    have a2 : at' s ((i + (aheadT mp true ks).length + (textJ x).length : Nat) : Int) = 44 := zhE d2
    have d3 : s.drop (i + (aheadT mp true ks).length + (textJ x).length + 1) = partsT mp true (x2 :: l) ks.tail ++ endU mp :: b := zfh (ds := [44]) d2
    obtain ⟨l', q1, q2, q3⟩ := il x2 ks.tail (if mp = true then kacc ++ [ks.headD []] else kacc) (acc ++ [y]) s _ b d3 (fun z hz => hr z (List.mem_cons_of_mem _ hz)) (fun q => by
      obtain ⟨q1, q2, q3⟩ := hk q
      match ks, q1, q2, q3 with
      | k :: kr, q1, q2, q3 =>
        refine ⟨by simpa using q1, ?_, fun z hz => q3 z (List.mem_cons_of_mem _ hz)⟩
        rw [if_pos q]
        show ((kacc ++ [k]) ++ kr).Nodup
        rw [List.append_assoc]
        exact q2)
    refine ⟨y :: l', by rw [List.length_cons, q1]; rfl, by rw [sameL, sm, q2]; rfl, ?_⟩
    rw [zdV (zcb s d) hi, k1]
    dsimp only
    rw [v1]
    dsimp only
    rw [p2]
    dsimp only
    have ne : ¬ at' s ((i + (aheadT mp true ks).length + (textJ x).length : Nat) : Int) = endM mp := by
      rw [a2]
      cases mp <;> decide
    rw [if_neg ne, if_pos a2]
    rw [q3]
    refine congrArg Sum.inl (Prod.ext ?_ ?_)
    · dsimp only
      rw [List.append_assoc]
      cases mp with
      | false => rfl
      | true =>
        obtain ⟨q1, _⟩ := hk rfl
        match ks, q1 with
        | k :: kr, _ =>
          show manyV true _ ((kacc ++ [k]) ++ kr) = manyV true _ (kacc ++ (k :: kr))
          rw [List.append_assoc]
          rfl
    · dsimp only
      simp only [List.length_append, List.length_cons]
      omega
theorem back : ∀ d, Back d := by
  intro d
  induction d with
  | zero => intro x h; cases h
  | succ d ih =>
    intro x h s i b hs hb
    obtain ⟨c, r, h1, h2⟩ := zcD h
    have hc : s.drop i = c :: (r ++ b) := by rw [hs, h1]; rfl
    have p0 := zcN hc (zgw h2).1
    have a0 := zhE hc
    obtain ⟨k, y, n, dg, e, t, l, ks⟩ := x
    rw [zbU] at h
    rw [jval, p0]
    dsimp only
    rw [textJ] at hs h1 ⊢
    by_cases k0 : k = 0
    · subst k0
      rw [if_pos rfl] at hs h1 ⊢
      obtain rfl : c = 110 := (List.cons.inj h1).1.symm
      rw [if_pos (show at' s (i : Int) = 110 from a0), zjQ hs]
      exact ⟨_, rfl, by rw [j0, sameJ]; simp⟩
    rw [if_neg k0] at hs h1 ⊢
    by_cases k1 : k = 1
    · subst k1
      rw [if_pos rfl] at hs h1 ⊢
      cases y with
      | true =>
        rw [if_pos rfl] at hs h1 ⊢
        obtain rfl : c = 116 := (List.cons.inj h1).1.symm
        rw [if_neg (show ¬ at' s (i : Int) = 110 by rw [a0]; decide), if_pos (show at' s (i : Int) = 116 from a0), zjQ hs]
        exact ⟨_, rfl, by rw [sameJ]; simp⟩
      | false =>
        rw [if_neg Bool.false_ne_true] at hs h1 ⊢
        obtain rfl : c = 102 := (List.cons.inj h1).1.symm
        rw [if_neg (show ¬ at' s (i : Int) = 110 by rw [a0]; decide), if_neg (show ¬ at' s (i : Int) = 116 by rw [a0]; decide), if_pos (show at' s (i : Int) = 102 from a0), zjQ hs]
        exact ⟨_, rfl, by rw [sameJ]; simp⟩
    rw [if_neg k1] at hs h1 ⊢
    rw [if_neg (fun q => q.elim k0 k1)] at h
    by_cases k2 : k = 2
    · subst k2
      rw [if_pos rfl] at h hs h1 ⊢
      have hR := zft h
      obtain ⟨c', r', h3, h4⟩ := zji hR
      rw [h3] at h1
      obtain rfl : c' = c := (List.cons.inj h1).1
      have hn : (c'.toNat : Int) = 45 ∨ 48 ≤ (c'.toNat : Int) ∧ (c'.toNat : Int) ≤ 57 := by
        rcases h4 with rfl | h4
        · exact .inl rfl
        · exact .inr (zbE.1 h4)
      rw [if_neg (by rw [a0]; omega), if_neg (by rw [a0]; omega), if_neg (by rw [a0]; omega), if_neg (by rw [a0]; omega), if_neg (by rw [a0]; omega), if_neg (by rw [a0]; omega)]
      unfold jnum
      rw [hs, zjv n dg e hR b hb]
      dsimp only
      rw [if_pos rfl]
      exact ⟨_, rfl, by rw [jnumV, sameJ]; simp⟩
    rw [if_neg k2] at h hs h1 ⊢
    by_cases k3 : k = 3
    · subst k3
      rw [if_pos rfl] at h hs h1 ⊢
      obtain ⟨r', h3⟩ := zcd h
      rw [h3] at h1
      obtain rfl : (34 : UInt8) = c := (List.cons.inj h1).1
      rw [if_neg (by rw [a0]; decide), if_neg (by rw [a0]; decide), if_neg (by rw [a0]; decide), if_pos (show at' s (i : Int) = 34 from a0), znH h hs]
      exact ⟨_, rfl, by rw [sameJ]; simp⟩
    rw [if_neg k3] at h hs h1 ⊢
    by_cases k4 : k = 4
    · subst k4
      rw [if_pos rfl] at hs h1 ⊢
      rw [if_neg (by decide), if_pos rfl] at h
      obtain rfl : (91 : UInt8) = c := (List.cons.inj h1).1
      rw [if_neg (by rw [a0]; decide), if_neg (by rw [a0]; decide), if_neg (by rw [a0]; decide), if_neg (by rw [a0]; decide), if_pos (show at' s (i : Int) = 91 from a0)]
      have d1 : s.drop (i + 1) = partsT false true l ks ++ endU false :: b := zfh (ds := [91]) (by rw [hs]; simp [endU])
      unfold jmany
      cases l with
      | nil =>
        have d1 : s.drop (i + 1) = endU false :: b := d1
        rw [zcN d1 (zdh false).2.1]
        dsimp only
        rw [if_pos (show at' s ((i + 1 : Nat) : Int) = endM false from zhE d1)]
        exact ⟨_, rfl, by rw [manyV, kindM, sameJ]; simp [sameL]⟩
      | cons x l =>
        obtain ⟨l', q1, q2, q3⟩ := znn ih false l x ks [] [] s (i + 1) b d1 (fun y hy => List.all_eq_true.1 h y hy) (fun q => by cases q)
        obtain ⟨c1, r1, t1, t2⟩ := zcD (List.all_eq_true.1 h x (by simp))
        have d1' : s.drop (i + 1) = c1 :: (r1 ++ partsT false false l ks.tail ++ endU false :: b) := by
          rw [d1, partsT, t1]
          rfl
        rw [zcN d1' (zgw t2).1]
        dsimp only
        rw [if_neg (show ¬ at' s ((i + 1 : Nat) : Int) = endM false by rw [zhE d1']; exact (zgw t2).2.1), q3]
        refine ⟨_, congrArg Sum.inl (Prod.ext rfl ?_), ?_⟩
        · dsimp only
          simp only [List.length_append, List.length_cons, List.length_nil]
          omega
        · rw [manyV, kindM, List.nil_append, if_neg Bool.false_ne_true, sameJ]
          simp [q1, q2]
    rw [if_neg k4] at hs h1 ⊢
    by_cases k5 : k = 5
    · subst k5
      rw [if_pos rfl] at h
      rw [decide_eq_true rfl] at hs ⊢
      rw [Bool.and_eq_true, Bool.and_eq_true, decide_eq_true_eq] at h
      obtain ⟨⟨hk, hkl⟩, h⟩ := h
      obtain rfl : (123 : UInt8) = c := (List.cons.inj h1).1
      rw [if_neg (by rw [a0]; decide), if_neg (by rw [a0]; decide), if_neg (by rw [a0]; decide), if_neg (by rw [a0]; decide), if_neg (by rw [a0]; decide), if_pos (show at' s (i : Int) = 123 from a0)]
      have d1 : s.drop (i + 1) = partsT true true l ks ++ endU true :: b := zfh (ds := [123]) (by rw [hs]; simp [endU])
      unfold jmany
      cases l with
      | nil =>
        have d1 : s.drop (i + 1) = endU true :: b := d1
        rw [zcN d1 (zdh true).2.1]
        dsimp only
        rw [if_pos (show at' s ((i + 1 : Nat) : Int) = endM true from zhE d1)]
        obtain rfl : ks = [] := List.length_eq_zero_iff.1 hkl
        exact ⟨_, rfl, by rw [manyV, kindM, sameJ]; simp [sameL]⟩
      | cons x l =>
        unfold keysOk at hk
        rw [Bool.and_eq_true, decide_eq_true_eq, List.all_eq_true] at hk
        obtain ⟨l', q1, q2, q3⟩ := znn ih true l x ks [] [] s (i + 1) b d1 (fun y hy => List.all_eq_true.1 h y hy) (fun _ => ⟨hkl, hk.1, hk.2⟩)
        match ks, hkl, hk with
        | k :: kr, hkl, hk =>
        obtain ⟨r1, t1⟩ := zcd (hk.2 k (by simp))
        have d1' : s.drop (i + 1) = 34 :: (r1 ++ [58] ++ textJ x ++ partsT true false l kr ++ endU true :: b) := by
          rw [d1, partsT]
          show (quoteL k ++ [58]) ++ textJ x ++ _ ++ _ = _
          rw [t1]
          simp
        rw [zcN d1' (by decide)]
        dsimp only
        rw [if_neg (show ¬ at' s ((i + 1 : Nat) : Int) = endM true by rw [zhE d1']; decide), q3]
        refine ⟨_, congrArg Sum.inl (Prod.ext rfl ?_), ?_⟩
        · dsimp only
          simp only [List.length_append, List.length_cons, List.length_nil]
          omega
        · rw [manyV, kindM, List.nil_append, if_pos rfl, if_pos rfl, List.nil_append, sameJ]
          simp [q1, q2]
    · rw [if_neg k5, if_neg k4] at h
      cases h

theorem zsM {s : List UInt8} (hd : ∀ c ∈ s, isD c = true) (n : Nat) : ∀ c ∈ s ++ zs n, isD c = true := fun c hc => by
  rcases List.mem_append.1 hc with hc | hc
  · exact hd c hc
  · rw [List.eq_of_mem_replicate hc]
    rfl
theorem zqX {s : List UInt8} (h : digs s) : ∀ c ∈ s, isD c = true := fun c hc => by
  obtain ⟨i, hi, rfl⟩ := List.getElem_of_mem hc
  have := h i hi
  unfold at' at this
  simp only [Int.toNat_natCast, List.getD_eq_getElem?_getD, List.getElem?_eq_getElem hi, Option.getD_some] at this
  exact zbE.2 this
theorem zrm {ds : List UInt8} (hd : ∀ c ∈ ds, isD c = true) {i : Nat} (h : i < ds.length) : ((numL (ds.take (i + 1)) : Nat) : Int) = 10 * (numL (ds.take i) : Nat) + (at' ds i - 48) ∧ 48 ≤ at' ds i ∧ at' ds i ≤ 57 := by
  have hm : ds.getD i 0 ∈ ds := by
    simp only [List.getD_eq_getElem?_getD, List.getElem?_eq_getElem h, Option.getD_some]
    exact List.getElem_mem h
  have h1 := zbE.1 (hd _ hm)
  refine ⟨?_, h1⟩
  rw [ziJ ds i h, zjN]
  show _ = 10 * _ + (((ds.getD i 0).toNat : Int) - 48)
  omega
theorem ztC {ds : List UInt8} (hd : ∀ c ∈ ds, isD c = true) (hl : ds.length ≤ 19) (i : Nat) : ((numL (ds.take i) : Nat) : Int) < 10000000000000000000 := by
  have h1 := znF (ds.take i) fun c hc => hd c (List.mem_of_mem_take hc)
  have h2 : 10 ^ (ds.take i).length ≤ 10 ^ 19 := Nat.pow_le_pow_right (by decide) (by rw [List.length_take]; omega)
  omega
theorem zrx {neg : Bool} {s : List UInt8} {e : Int} (h : ¬ RightP neg s e ∨ e < 0 ∨ 19 < s.length + e) : intF neg s e = (0, false) := if_pos h
theorem ztL {neg : Bool} {s : List UInt8} {e : Int} (h : ¬ (¬ RightP neg s e ∨ e < 0 ∨ 19 < s.length + e)) (h2 : 4611686018427387904 < ((numL (s ++ zs e.toNat) : Nat) : Int)) : intF neg s e = (0, false) := by
  unfold intF
  rw [if_neg h, if_pos (by omega)]
theorem ztM {neg : Bool} {s : List UInt8} {e : Int} (h : ¬ (¬ RightP neg s e ∨ e < 0 ∨ 19 < s.length + e)) (h2 : ¬ 4611686018427387904 < ((numL (s ++ zs e.toNat) : Nat) : Int)) (h3 : neg = true) : intF neg s e = (-((numL (s ++ zs e.toNat) : Nat) : Int), true) := by
  unfold intF
  rw [if_neg h, if_neg (by omega), if_pos h3]
theorem ztW {neg : Bool} {s : List UInt8} {e : Int} (h : ¬ (¬ RightP neg s e ∨ e < 0 ∨ 19 < s.length + e)) (h2 : ¬ 4611686018427387904 < ((numL (s ++ zs e.toNat) : Nat) : Int)) (h3 : ¬ neg = true) : intF neg s e = (((numL (s ++ zs e.toNat) : Nat) : Int), true) := by
  unfold intF
  rw [if_neg h, if_neg (by omega), if_neg h3]
theorem zsT (neg : Bool) (s : List UInt8) (e : Int) (hs : s.length ≤ 1048576) (h : ¬ RightP neg s e) : Ctr Tryz.prog 83 [dcD neg s e] (.tu [.i .i64 0, .b false]) := by
  have c1 := zcs neg s e (by omega)
  rw [zeT h] at c1
  refine zaE Tryz.func83 rfl Tryz.ntmps83 Tryz.results83 rfl rfl fun X hL hX => ?_
  repeat' (first |with_reducible (first |refine zag ?_|refine zaa ?_|refine zaf ?_|refine zad ?_|refine zaj ?_|refine zam ?_)|refine zab rfl rfl True.intro ?_|refine zat rfl rfl rfl ?_|refine zav rfl ?_|((first |refine zab rfl rfl ?_ ?_|refine zao rfl rfl ?_ ?_);focus (first |exact le_ rfl|((repeat' refine And.intro ?_ ?_)<;>omega)|((repeat' refine And.intro ?_ ?_)<;>first |rfl)))|refine zau rfl ?_|refine zai (f := 113) rfl rfl Tryz.call113 rfl c1 ?_|fail)
  all_goals rfl
set_option maxHeartbeats 1000000 in
theorem zsc (neg : Bool) (s : List UInt8) (e : Int) (hs : s.length ≤ 1048576) : Ctr Tryz.prog 83 [dcD neg s e] (.tu [.i .i64 (intF neg s e).1, .b (intF neg s e).2]) := by
  by_cases h : RightP neg s e
  case neg =>
    rw [zrx (.inl h)]
    exact zsT neg s e hs h
  obtain ⟨b1, b2, b3, b4⟩ := h.bounds
  have c1 := zcs neg s e (by omega)
  rw [zcE.2 h] at c1
  have c2 := fun h0 => zjX e h0 (by omega)
  have hds := zsM (zqX b4) e.toNat
  have hlen : (s ++ zs e.toNat).length = s.length + e.toNat := by simp
  have I1 : (e < 0 ∨ 19 < s.length + e) → intF neg s e = (0, false) := fun h2 => zrx (.inr h2)
  have hno : ¬ (e < 0 ∨ 19 < s.length + e) → ¬ (¬ RightP neg s e ∨ e < 0 ∨ 19 < s.length + e) := fun h2 h3 => h3.elim (fun h4 => h4 h) h2
  have I2 := fun h2 => ztL (neg := neg) (s := s) (e := e) (hno h2)
  have I3 := fun h2 => ztM (neg := neg) (s := s) (e := e) (hno h2)
  have I4 := fun h2 => ztW (neg := neg) (s := s) (e := e) (hno h2)
  clear h hno b4
  generalize intF neg s e = R at *
  have lz : (zs e.toNat).length = e.toNat := by simp
  refine zaE Tryz.func83 rfl Tryz.ntmps83 Tryz.results83 rfl rfl fun X hL hX => ?_
  repeat' (first |with_reducible (first |refine zag ?_|refine zaa ?_|refine zaf ?_|refine zad ?_|refine zaj ?_|refine zah ?_|refine zae ?_|refine zam ?_|refine zaB ?_)|refine zab rfl rfl True.intro ?_|refine zat rfl rfl rfl ?_|refine zak rfl rfl rfl rfl True.intro ?_|refine zav rfl ?_|((first |refine zac rfl ?_ ?_|refine zan rfl rfl ?_ ?_|refine zaD rfl rfl ?_ ?_)<;>intro<;>try (first |(rename_i hz;exact tf_ hz)))|((first |refine zab rfl rfl ?_ ?_|refine zak rfl rfl rfl rfl ?_ ?_|refine zao rfl rfl ?_ ?_);focus (first |(rw [lz];omega)|omega|exact le_ rfl|((repeat' refine And.intro ?_ ?_)<;>omega)|((repeat' refine And.intro ?_ ?_)<;>first |rfl)))|with_reducible refine ⟨by kernel_rfl, ?_⟩|refine zau rfl ?_|refine zai (f := 113) rfl rfl Tryz.call113 rfl c1 ?_|refine zai (f := 114) rfl rfl Tryz.call114 rfl (c2 (by omega)) ?_|refine zsJ rfl rfl rfl rfl ?_|fail)
  · rw [I1 (by omega)]
  · rw [I1 (by omega)]
  rename_i h1 h2
  replace I2 := I2 (by omega)
  replace I3 := I3 (by omega)
  replace I4 := I4 (by omega)
  have hl19 : (s ++ zs e.toNat).length ≤ 19 := by omega
  have hnum := ztC hds hl19
  have htake := fun i h => zrm hds (i := i) h
  clear I1 c1 c2 hds
  generalize s ++ zs e.toNat = ds at *
  refine T.loop hL (fun k : Nat => [(1, .pv 1 0), (4, .i .u64 (numL (ds.take k) : Nat)), (30, .pv 30 0)]) (fun k => [(1, .var [.b neg, .s s, .i .i64 e]), (30, .ob (.stringIter ⟨ds.toArray⟩ k))]) (fun k => k ≤ ds.length) (fun k => ds.length - k) 0 (Nat.zero_le _)
    ⟨⟨rfl, rfl, rfl, trivial⟩, ⟨rfl, rfl, trivial⟩, rfl, by rw [hX]; intro k hk; cases hk⟩ ?_
  intro k hk
  by_cases hlt : k < ds.length
  · obtain ⟨e1, e2, e3⟩ := htake k hlt
    have n0 := hnum k
    have n1 := hnum (k + 1)
    rw [e1] at n1
    have ew : IntKind.u64.wrap (IntKind.u64.wrap (10 * ((numL (ds.take k) : Nat) : Int)) + IntKind.u64.wrap (IntKind.i32.wrap (at' ds k - 48))) = ((numL (ds.take (k + 1)) : Nat) : Int) := by
      rw [e1]
      simp only [wi3_, zjo]
      omega
    clear I2 I3 I4 hnum htake
    repeat' (first |with_reducible (first |refine zag ?_|refine zaa ?_|refine zaf ?_|refine zad ?_|refine zah ?_|refine zae ?_|refine zap ?_)|refine zab rfl rfl True.intro ?_|refine zav rfl ?_|refine ztS rfl rfl rfl hlt (by omega) ?_|fail)
    exact ⟨k + 1, by omega, by omega, ⟨rfl, congrArg (D.i .u64) ew, rfl, trivial⟩, ⟨rfl, rfl, trivial⟩, rfl, by rw [hX]; intro k hk; cases hk⟩
  · have hfull : ds.take k = ds := List.take_of_length_le (by omega)
    rw [hfull]
    have n0 := hnum ds.length
    rw [List.take_of_length_le (Nat.le_refl _)] at n0
    clear hnum htake hfull
    generalize numL ds = N at *
    repeat' (first |with_reducible (first |refine zag ?_|refine zaa ?_|refine zaf ?_|refine zad ?_|refine zaj ?_|refine zah ?_|refine zaA ?_|refine zaz ?_|refine zam ?_)|refine zab rfl rfl True.intro ?_|refine zal rfl ?_|((first |refine zac rfl ?_ ?_|refine zrI rfl ?_ ?_)<;>intro)|((first |refine zab rfl rfl ?_ ?_);focus (first |exact le_ rfl|((repeat first |rw [wi6_]);(repeat' refine And.intro ?_ ?_)<;>omega)))|refine zaO rfl ?_|refine zau rfl ?_|refine zub rfl rfl rfl (by omega) ?_|fail)
    · rw [I2 (by omega)]
    · rw [I3 (by omega) ‹_›, wi6_]
      exact congrArg (fun x => D.tu [.i .i64 x, .b true]) (by omega)
    · rw [I4 (by omega) (Bool.eq_false_iff.1 ‹_›), wi6_]
      exact congrArg (fun x => D.tu [.i .i64 x, .b true]) (by omega)

set_option maxHeartbeats 1000000 in
theorem zpG (neg : Bool) (s : List UInt8) (e : Int) (hs : s.length ≤ 1099511627776) (h1 : -4611686018427387904 ≤ e) (h2 : e ≤ 4611686018427387904) :
    Ctr Tryz.prog 107 [.b neg, .s s, .i .i64 e] (.tu [dcV (normF neg s e).1, .i .i64 (normF neg s e).2]) := by
  generalize hR : normF neg s e = R
  unfold normF at hR
  replace hR := fun _ : Unit => hR.symm
  refine zaE Tryz.func107 rfl Tryz.ntmps107 Tryz.results107 rfl rfl fun X hL hX => ?_
  repeat' (first |with_reducible (first |refine zag ?_|refine zaa ?_|refine zaf ?_|refine zad ?_|refine zae ?_)|refine zab rfl rfl True.intro ?_|((first |refine zao rfl rfl ?_ ?_);focus (first |((repeat' refine And.intro ?_ ?_)<;>omega)|((repeat' refine And.intro ?_ ?_)<;>first |rfl)))|fail)
  refine T.loop hL (fun y : List UInt8 => [(0, .b neg), (1, .s y), (2, .i .i64 (e + (s.length - y.length))), (6, .pv 6 0)]) (fun _ => [(6, .var [.b false, .s [], .i .i64 0])]) (fun y => tR y = tR s ∧ y.length ≤ s.length) (fun y => y.length) s ⟨rfl, Nat.le_refl _⟩
    ⟨⟨rfl, rfl, by show D.i .i64 e = _; rw [Int.sub_self, Int.add_zero], rfl, trivial⟩, ⟨rfl, trivial⟩, rfl, by rw [hX]; intro k hk; cases hk⟩ ?_
  rintro y ⟨g1, g2⟩
  by_cases hy : y.length = 0 ∨ ¬ at' y (y.length - 1) = 48
  · have hst : y = tR s := by rw [← g1, zsL y hy]
    have hst := fun _ : Unit => hst
    clear g1
    have hm := fun _ : Unit => hst ()
    have hle : y.length ≤ s.length := g2
    have key : Unit → (tR s).length = y.length := fun _ => by rw [← hst ()]
    repeat' (first |with_reducible (first |refine zag ?_|refine zaa ?_|refine zaf ?_|refine zad ?_|refine zaA ?_|refine zae ?_|refine zaz ?_)|refine zab rfl rfl True.intro ?_|refine zat rfl rfl rfl ?_|refine zak rfl rfl rfl rfl True.intro ?_|refine zal rfl ?_|((first |refine zac rfl ?_ ?_|refine zan rfl rfl ?_ ?_)<;>intro<;>try (first |(exfalso;omega)))|((first |refine zak rfl rfl rfl rfl ?_ ?_);focus (first |omega|((repeat' refine And.intro ?_ ?_)<;>omega)))|refine zaO rfl ?_|fail)
    all_goals
      refine T.loop hL (fun z : List UInt8 => [(0, .b neg), (1, .s z), (2, .i .i64 (e + (s.length - y.length))), (6, .pv 6 0)]) (fun _ => [(6, .var [.b false, .s [], .i .i64 0])]) (fun z => tL z = tL y ∧ z.length ≤ y.length) (fun z => z.length) y ⟨rfl, Nat.le_refl _⟩
        ⟨⟨rfl, rfl, rfl, rfl, trivial⟩, ⟨rfl, trivial⟩, rfl, by rw [hX]; intro k hk; cases hk⟩ ?_
      rintro z ⟨q1, q2⟩
      by_cases hz : z.length = 0 ∨ ¬ at' z 0 = 48
      · have hz2 : z = tL y := by rw [← q1, zsO z hz]
        have hR2 : Unit → R = if z.length = 0 then ((false, [], 0), 0) else if 100 < z.length then ((false, [], 0), 5) else if e + (s.length - y.length) < -1000 ∨ 1000 < e + (s.length - y.length) then ((false, [], 0), 8) else ((neg, z, e + (s.length - y.length)), 0) := fun _ => by rw [hR (), ← hst (), ← hz2]
        clear q1 hz2 hR hst hm key
        repeat' (first |with_reducible (first |refine zag ?_|refine zaa ?_|refine zaf ?_|refine zad ?_|refine zaj ?_|refine zah ?_|refine zaA ?_|refine zaz ?_|refine zam ?_)|refine zab rfl rfl True.intro ?_|refine zat rfl rfl rfl ?_|refine zak rfl rfl rfl rfl True.intro ?_|refine zav rfl ?_|refine zal rfl ?_|((first |refine zac rfl ?_ ?_|refine zan rfl rfl ?_ ?_)<;>intro<;>try (first |(exfalso;omega)))|((first |refine zak rfl rfl rfl rfl ?_ ?_|refine zaw rfl ?_ ?_);focus (first |omega|((repeat' refine And.intro ?_ ?_)<;>omega)|((repeat' refine And.intro ?_ ?_)<;>first |rfl|exact Nat.le_refl _)))|refine zaO rfl ?_|refine zau rfl ?_|fail)
        all_goals first
          | (rw [hR2 (), if_pos (by omega)]; rfl)
          | (rw [hR2 (), if_neg (by omega), if_pos (by omega)]; rfl)
          | (rw [hR2 (), if_neg (by omega), if_neg (by omega), if_pos (by omega)]; rfl)
          | (rw [hR2 (), if_neg (by omega), if_neg (by omega), if_neg (by omega)]; rfl)
          | (exfalso; omega)
      · have hst2 := fun _ : Unit => zsn z (by omega) (by omega)
        have q1 := fun _ : Unit => q1
        have hz1 : ¬ z.length = 0 := by omega
        have hz2 : at' z 0 = 48 := by omega
        clear hR hst hm key
        repeat' (first |with_reducible (first |refine zag ?_|refine zaa ?_|refine zaf ?_|refine zad ?_|refine zah ?_|refine zae ?_|refine zap ?_)|refine zab rfl rfl True.intro ?_|refine zak rfl rfl rfl rfl True.intro ?_|((first |refine zac rfl ?_ ?_|refine zan rfl rfl ?_ ?_)<;>intro<;>try (first |contradiction|(exfalso;omega)))|((first |refine zab rfl rfl ?_ ?_|refine zak rfl rfl rfl rfl ?_ ?_);focus (first |omega|((repeat' refine And.intro ?_ ?_)<;>omega)))|fail)
        all_goals refine ⟨z.drop 1, ⟨(hst2 ()).trans (q1 ()), by simp; omega⟩, by simp only [List.length_drop]; omega, ⟨rfl, ?_, rfl, rfl, trivial⟩, ⟨rfl, trivial⟩, rfl, by rw [hX]; intro k hk; cases hk⟩
        all_goals exact congrArg D.s (by rw [Int.toNat_natCast, List.take_length]; rfl)
  · have hst := fun _ : Unit => zsw y (by omega) (by omega)
    have g1 := fun _ : Unit => g1
    have hy1 : ¬ y.length = 0 := by omega
    have hy2 : at' y (y.length - 1) = 48 := by omega
    repeat' (first |with_reducible (first |refine zag ?_|refine zaa ?_|refine zaf ?_|refine zad ?_|refine zah ?_|refine zae ?_|refine zap ?_)|refine zab rfl rfl True.intro ?_|refine zak rfl rfl rfl rfl True.intro ?_|((first |refine zac rfl ?_ ?_|refine zan rfl rfl ?_ ?_)<;>intro<;>try (first |contradiction|(exfalso;omega)))|((first |refine zab rfl rfl ?_ ?_|refine zak rfl rfl rfl rfl ?_ ?_);focus (first |omega|((repeat' refine And.intro ?_ ?_)<;>omega)))|fail)
    refine ⟨y.take (y.length - 1), ⟨(hst ()).trans (g1 ()), by simp; omega⟩, by simp; omega, ⟨rfl, ?_, ?_, rfl, trivial⟩, ⟨rfl, trivial⟩, rfl, by rw [hX]; intro k hk; cases hk⟩
    · exact congrArg D.s (by rw [show ((y.length : Int) - 1).toNat = y.length - 1 by omega]; rfl)
    · exact congrArg (D.i .i64) (by rw [List.length_take]; omega)

theorem znr : Ctr Tryz.prog 98 [dcD false [] 0] (.s [48]) := by
  have c1 := zcs false [] 0 (by decide)
  have hr : rightB false [] 0 = true := by decide
  rw [hr] at c1
  refine zaE Tryz.func98 rfl Tryz.ntmps98 Tryz.results98 rfl rfl fun X hL hX => ?_
  repeat' (first |with_reducible (first |refine zag ?_|refine zaa ?_|refine zaf ?_|refine zad ?_|refine zaj ?_|refine zah ?_|refine zae ?_|refine zam ?_|refine zar ?_)|refine zab rfl rfl True.intro ?_|refine zav rfl ?_|refine zal rfl ?_|((first |refine zab rfl rfl ?_ ?_|refine zao rfl rfl ?_ ?_);focus (first |exact le_ rfl|((repeat' refine And.intro ?_ ?_)<;>omega)|((repeat' refine And.intro ?_ ?_)<;>first |omega|rfl)|(simp_all;omega)))|refine zau rfl ?_|refine zai (f := 113) rfl rfl Tryz.call113 rfl c1 ?_|fail)
  all_goals rfl
theorem zmg : Ctr Tryz.prog 75 [dcD false [] 0] (.s [48]) := by
  have c1 := zfa false [] 0 (by decide)
  have hr : rightB false [] 0 = true := by decide
  rw [hr] at c1
  refine zaE Tryz.func75 rfl Tryz.ntmps75 Tryz.results75 rfl rfl fun X hL hX => ?_
  repeat' (first |with_reducible (first |refine zag ?_|refine zaa ?_|refine zaf ?_|refine zad ?_|refine zaj ?_|refine zah ?_|refine zam ?_)|refine zab rfl rfl True.intro ?_|refine zav rfl ?_|refine zal rfl ?_|((first |refine zab rfl rfl ?_ ?_|refine zao rfl rfl ?_ ?_);focus (first |exact le_ rfl|((repeat' refine And.intro ?_ ?_)<;>omega)|((repeat' refine And.intro ?_ ?_)<;>first |rfl)))|refine zau rfl ?_|refine zai (f := 59) rfl rfl Tryz.call59 rfl c1 ?_|fail)
  all_goals rfl
theorem zqu (neg : Bool) (s : List UInt8) (e : Int) (hs : s.length ≤ 1048576) : Ctr Tryz.prog 98 [dcD neg s e] (.s (textF neg s e)) := by
  by_cases h : RightP neg s e
  · by_cases h0 : s.length = 0
    · obtain ⟨rfl, rfl⟩ := (zcA h0).1 h
      obtain rfl := zif h0
      exact znr
    · have := ztc neg s e h h0
      unfold textF
      rw [if_neg (fun h2 => h2 h), if_neg h0]
      exact this
  · have := zpO neg s e hs h
    unfold textF
    rw [if_pos h]
    exact this
theorem zpF (neg : Bool) (s : List UInt8) (e : Int) (hs : s.length ≤ 1048576) : Ctr Tryz.prog 75 [dcD neg s e] (.s (textF neg s e)) := by
  by_cases h : RightP neg s e
  · by_cases h0 : s.length = 0
    · obtain ⟨rfl, rfl⟩ := (zcA h0).1 h
      obtain rfl := zif h0
      exact zmg
    · have := zrg neg s e h h0
      unfold textF
      rw [if_neg (fun h2 => h2 h), if_neg h0]
      exact this
  · have := zpc neg s e hs h
    unfold textF
    rw [if_pos h]
    exact this

theorem zfZ {neg : Bool} {s : List UInt8} {e : Int} (h : RightP neg s e) : (textF neg s e).length ≤ 1000 := by
  obtain ⟨b1, b2, b3, _⟩ := h.bounds
  have l4 := zhS (s.length + e - 1) (by omega) (by omega)
  have lu : (textU s e).length ≤ 900 := by
    unfold textU
    split
    · simp only [List.length_append, List.length_replicate]
      omega
    · split
      · simp only [List.length_append, List.length_take, List.length_drop, List.length_cons, List.length_nil]
        omega
      · split
        · simp only [List.length_append, List.length_replicate, List.length_cons, List.length_nil]
          omega
        · have : (if 1 < s.length then ([46] : List UInt8) ++ s.drop 1 else []).length ≤ 200 := by
            split
            · simp only [List.length_append, List.length_drop, List.length_cons, List.length_nil]
              omega
            · simp
          simp only [List.length_append, List.length_take, List.length_cons, List.length_nil]
          omega
  unfold textF
  rw [if_neg (fun h2 => h2 h)]
  split
  · simp
  · have : (if neg = true then ([45] : List UInt8) else []).length ≤ 1 := by split <;> simp
    rw [List.length_append]
    omega
end Go.Proofs.YtcajofhafpkbdaaGreatDoor.Flow
