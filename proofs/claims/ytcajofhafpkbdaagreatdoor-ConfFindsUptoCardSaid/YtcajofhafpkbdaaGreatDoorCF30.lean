/- The texts D15, J23, J24, D13, D7, D9, D17a, D17, DP, LibsC, D21, D18, U18, U19, J27, one behind the other. -/
import Derived.Test.YtcajofhafpkbdaaGreatDoorCF13
import Derived.Test.YtcajofhafpkbdaaGreatDoorCF18
import Derived.Test.YtcajofhafpkbdaaGreatDoorCF23
import Derived.Test.YtcajofhafpkbdaaGreatDoorCF27
import Derived.Test.YtcajofhafpkbdaaGreatDoorCF28
import Derived.Test.YtcajofhafpkbdaaGreatDoorCF29
namespace Go.Proofs.YtcajofhafpkbdaaGreatDoor.Flow
open Go

section
variable {x r ds : List UInt8} {a : UInt8} {i : Nat}

theorem zmn {l : List UInt8} (h : x.drop i = a :: l) : i < x.length := by
  by_cases hi : i < x.length
  · exact hi
  · rw [List.drop_eq_nil_of_le (by omega)] at h
    cases h

theorem zol (h : x.drop i = a :: r) : at' x i = (a.toNat : Int) := by
  have hi := zmn h
  rw [zcP hi] at h
  have := (List.cons.inj h).1
  unfold at'
  rw [Int.toNat_natCast, this]

theorem zbS {c : Int} (h : x.drop i = a :: r) : sat x i c ↔ (a.toNat : Int) = c := by
  unfold sat
  rw [zol h]
  exact ⟨fun h => h.2, fun h2 => ⟨zmn h, h2⟩⟩

theorem zbv (h : x.drop i = ds ++ r) : x.drop (i + ds.length) = r := by
  rw [← List.drop_drop, h, List.drop_left]

theorem zdB {p : UInt8 → Bool} : ∀ {ds : List UInt8}, (∀ c ∈ ds, p c = true) → p a = false → (ds ++ a :: r).takeWhile p = ds
  | [], _, h => by simp [h]
  | c :: ds, h, h2 => by
    rw [List.cons_append, List.takeWhile_cons, if_pos (h c (by simp)), zdB (fun c hc => h c (by simp [hc])) h2]

theorem zjf (h : x.drop i = ds ++ a :: r) (hd : ∀ c ∈ ds, isD c = true) (ha : isD a = false) : dgT x i = ds := by
  unfold dgT
  rw [h]
  exact zdB hd ha

theorem zgo {c : UInt8} (h : x.drop i = c :: ds ++ a :: r) (hc : ¬ c = 48) (hd : ∀ b ∈ c :: ds, isD b = true) (ha : isD a = false) : whN x i = (c :: ds, i + (c :: ds).length) := by
  rw [zma, zjf h hd ha]
  rw [zbS (r := ds ++ a :: r) h]
  exact fun h => hc ((u8_eq (n := 48) (by omega)).1 h)

theorem zjC (h : x.drop i = 48 :: r) : whN x i = ([48], i + 1) := zkZ ((zbS h).2 rfl)

theorem zgj (h : x.drop i = a :: r) (ha : ¬ (a.toNat : Int) = 46) : frN x i = ([], i) := zlQ (.inl fun h2 => ha ((zbS h).1 h2))

theorem zga (h : x.drop i = 46 :: (ds ++ a :: r)) (hd : ∀ b ∈ ds, isD b = true) (ha : isD a = false) (h0 : ¬ ds = []) : frN x i = (ds, i + 1 + ds.length) := by
  have h1 : x.drop (i + 1) = ds ++ a :: r := zbv (ds := [46]) h
  have h2 := zjf h1 hd ha
  rw [zkR ((zbS h).2 rfl) (by rw [h2]; exact h0), h2]

theorem zeo {pw : List UInt8 → Int} (h : x.drop i = a :: r) (ha : ¬ (a.toNat : Int) = 101) (hb : ¬ (a.toNat : Int) = 69) : exN pw x i = (0, i) := zhQ (.inl fun h2 => by
  rw [zbS h, zbS h] at h2
  omega)

theorem ziE (k : Nat) (h : k ≤ 1000000) : powP (Lib.decDigits k) = k := by
  induction k using Nat.strongRecOn with
  | ind k ih =>
    by_cases h2 : k < 10
    · rw [zbT h2]
      have e : powP [UInt8.ofNat (48 + k)] = min (10 * 0 + (((UInt8.ofNat (48 + k)).toNat : Int) - 48)) 1099511627776 := rfl
      rw [e, (zeK h2).2]
      omega
    · rw [zdR h2, zhI, ih (k / 10) (by omega) (by omega), (zeK (by omega)).2]
      omega

theorem ziZ {k : Int} (h : x.drop i = 101 :: (Lib.itoa k ++ a :: r)) (ha : isD a = false) (h0 : -1000000 ≤ k) (h1 : k ≤ 1000000) : exN powP x i = (k, i + 1 + (Lib.itoa k).length) := by
  have hs := (zbS (c := 101) h).2 rfl
  have h2 : x.drop (i + 1) = Lib.itoa k ++ a :: r := zbv (ds := [101]) h
  unfold Lib.itoa at h2 ⊢
  by_cases hk : k < 0
  · rw [if_pos hk] at h2 ⊢
    have h3 : x.drop (i + 1 + 1) = Lib.decDigits k.natAbs ++ a :: r := zbv (ds := [45]) h2
    have h45 := (zbS (c := 45) h2).2 rfl
    have hg : sgN x (i + 1) = i + 1 + 1 := if_pos (.inr h45)
    have hd := zjf h3 (zim _) ha
    rw [zhV (.inl hs) (by
      rw [hg, hd]
      obtain ⟨c, l, hc, _⟩ := zgJ k.natAbs (by omega)
      rw [hc]
      simp), hg, hd, if_pos h45, ziE _ (by omega)]
    refine Prod.ext ?_ ?_
    · show -((k.natAbs : Nat) : Int) = k
      omega
    · show i + 1 + 1 + _ = i + 1 + (_ :: _).length
      rw [List.length_cons]
      omega
  · rw [if_neg hk] at h2 ⊢
    have hne : ∃ c l, Lib.decDigits k.toNat = c :: l := by
      by_cases h9 : k.toNat < 10
      · exact ⟨_, [], zbT h9⟩
      · obtain ⟨c, l, hc, _⟩ := zgJ k.toNat (by omega)
        exact ⟨c, l, hc⟩
    have hd := zjf h2 (zim _) ha
    obtain ⟨c, l, hc⟩ := hne
    have hcd := zhL (zim k.toNat c (by rw [hc]; simp))
    have h4 : x.drop (i + 1) = c :: (l ++ a :: r) := by rw [h2, hc]; rfl
    have hg : sgN x (i + 1) = i + 1 := if_neg (by rw [zbS h4, zbS h4]; omega)
    rw [zhV (.inl hs) (by rw [hg, hd, hc]; simp), hg, hd, if_neg (by rw [zbS h4]; omega), ziE _ (by omega)]
    refine Prod.ext ?_ rfl
    show ((k.toNat : Nat) : Int) = k
    omega

theorem zdc {pw : List UInt8 → Int} {g i1 i2 i3 : Nat} {neg : Bool} {w f : List UInt8} {k : Int} {d : Bool × List UInt8 × Int} (hg : sg0 x = g) (hn : decide (sat x 0 45) = neg) (hw : whN x g = (w, i1)) (h0 : ¬ w = []) (hf : frN x i1 = (f, i2))
    (hx : exN pw x i2 = (k, i3)) (hr : normF neg (w ++ f) (k - f.length) = (d, 0)) : parseG pw x = (d, i3, 0) := by
  unfold parseG
  rw [hg, hw]
  dsimp only
  rw [if_neg h0, hf]
  dsimp only
  rw [hx, hn]
  dsimp only
  rw [hr]
  rfl

end

theorem zmU {s : List UInt8} (h : digs s) : ∀ c ∈ s, isD c = true := fun c hc => by
  obtain ⟨i, hi, rfl⟩ := List.getElem_of_mem hc
  have := h i hi
  unfold at' at this
  simp only [Int.toNat_natCast, List.getD_eq_getElem?_getD, List.getElem?_eq_getElem hi, Option.getD_some] at this
  exact zcm.2 this

theorem zkA {neg : Bool} {c : UInt8} {m : List UInt8} {e : Int} (h : RightP neg (c :: m) e) (z t : Nat) (e' : Int) (he : e' + t = e) : normF neg (zs z ++ ((c :: m) ++ zs t)) e' = ((neg, c :: m, e), 0) := by
  have hk := zjR h
  have h0 : ¬ (c :: m).length = 0 := by simp
  have hb := h.bounds
  rw [zbt h0] at h
  have hc : ¬ c = 48 := fun hc => h.2.2.1 (by rw [hc]; rfl)
  have e1 : tR (zs z ++ ((c :: m) ++ zs t)) = zs z ++ (c :: m) := by
    rw [← List.append_assoc, tR_zs]
    refine zll fun d q hq => ?_
    rcases zeZ (c :: m) with h2 | ⟨q2, w, h2⟩
    · simp at h2
    · rw [h2, ← List.append_assoc] at hq
      have := List.append_inj_right' hq rfl
      have := (List.cons.inj this).1
      rw [← this]
      exact hk w q2 h2
  unfold normF
  rw [e1, tL_zs, tL_ne hc, if_neg h0, if_neg (by omega), if_neg (by simp only [List.length_append, List.length_replicate]; omega)]
  simp only [List.length_append, List.length_replicate]
  refine Prod.ext (Prod.ext rfl (Prod.ext rfl ?_)) rfl
  dsimp only
  omega

theorem zdL : isD 32 = false := by decide

abbrev sgL (neg : Bool) : List UInt8 := if neg = true then [45] else []

theorem zlj (neg : Bool) {c : UInt8} {r : List UInt8} (hc : isD c = true) : sg0 (sgL neg ++ c :: r) = (sgL neg).length ∧ decide (sat (sgL neg ++ c :: r) 0 45) = neg ∧ (sgL neg ++ c :: r).drop (sgL neg).length = c :: r := by
  have hc := zhL hc
  refine ⟨?_, ?_, List.drop_left⟩
  · cases neg with
    | true =>
      unfold sg0
      rw [if_pos]
      · rfl
      · exact (zbS (a := 45) (r := c :: r) rfl).2 rfl
    | false =>
      unfold sg0
      rw [if_neg]
      · rfl
      · show ¬ sat (c :: r) 0 45
        rw [zbS (a := c) (r := r) rfl]
        omega
  · cases neg with
    | true =>
      exact decide_eq_true ((zbS (a := 45) (r := c :: r) rfl).2 rfl)
    | false =>
      refine decide_eq_false ?_
      show ¬ sat (c :: r) 0 45
      rw [zbS (a := c) (r := r) rfl]
      omega

theorem ziu (neg : Bool) (s : List UInt8) (e : Int) (h : RightP neg s e) (h0 : ¬ s.length = 0) (b : List UInt8) :
    parseG powP (sgL neg ++ (textU s e ++ 32 :: b)) = ((neg, s, e), (sgL neg ++ textU s e).length, 0) := by
  match s, h0 with
  | [], h0 => exact absurd rfl h0
  | c :: m, h0 =>
  have hb := h.bounds
  have hd := zmU hb.2.2.2
  have hr := zkA h
  have hR := h
  rw [zbt h0] at hR
  have hc : ¬ c = 48 := fun hc => hR.2.2.1 (by rw [hc]; rfl)
  have hc0 := hd c (by simp)
  clear hR
  by_cases k1 : 0 ≤ e ∧ (c :: m).length + e ≤ 21
  · rw [zmw k1.1 k1.2]
    obtain ⟨g1, g2, g3⟩ := zlj neg (c := c) (r := m ++ zs e.toNat ++ 32 :: b) hc0
    have ex : sgL neg ++ ((c :: m) ++ zs e.toNat ++ 32 :: b) = sgL neg ++ c :: (m ++ zs e.toNat ++ 32 :: b) := by simp
    rw [ex]
    generalize sgL neg ++ c :: (m ++ zs e.toNat ++ 32 :: b) = x at *
    have hdz : ∀ b ∈ c :: (m ++ zs e.toNat), isD b = true := fun b hb => by
      rw [← List.cons_append] at hb
      rcases List.mem_append.1 hb with hb | hb
      · exact hd b hb
      · rw [List.eq_of_mem_replicate hb]
        rfl
    have g3 : x.drop (sgL neg).length = c :: (m ++ zs e.toNat) ++ 32 :: b := by rw [g3]; simp
    have w1 := zgo g3 hc hdz zdL
    have d2 := zbv g3
    have f1 := zgj d2 (by decide)
    have x1 := zeo (pw := powP) d2 (by decide) (by decide)
    have r1 := hr 0 e.toNat 0 (by omega)
    have e2 : (sgL neg ++ ((c :: m) ++ zs e.toNat)).length = (sgL neg).length + (c :: (m ++ zs e.toNat)).length := by simp
    rw [e2]
    refine zdc g1 g2 w1 (by simp) f1 x1 ?_
    simpa using r1
  · by_cases k2 : 1 ≤ (c :: m).length + e ∧ (c :: m).length + e < (c :: m).length
    · rw [zlh k1 k2.1 k2.2]
      obtain ⟨p, hp⟩ : ∃ p : Nat, ((c :: m).length + e).toNat = p + 1 := ⟨((c :: m).length + e).toNat - 1, by omega⟩
      rw [hp, List.take_succ_cons, List.drop_succ_cons]
      obtain ⟨g1, g2, g3⟩ := zlj neg (c := c) (r := m.take p ++ 46 :: (m.drop p ++ 32 :: b)) hc0
      have ex : sgL neg ++ (c :: m.take p ++ [46] ++ m.drop p ++ 32 :: b) = sgL neg ++ c :: (m.take p ++ 46 :: (m.drop p ++ 32 :: b)) := by simp
      rw [ex]
      generalize sgL neg ++ c :: (m.take p ++ 46 :: (m.drop p ++ 32 :: b)) = x at *
      have hd1 : ∀ b ∈ c :: m.take p, isD b = true := fun b hb => hd b (by
        rcases List.mem_cons.1 hb with rfl | hb
        · simp
        · exact List.mem_cons_of_mem _ (List.mem_of_mem_take hb))
      have hd2 : ∀ b ∈ m.drop p, isD b = true := fun b hb => hd b (List.mem_cons_of_mem _ (List.mem_of_mem_drop hb))
      have hlm : p < m.length := by simp only [List.length_cons] at k2 hp; omega
      have hne : ¬ m.drop p = [] := fun h => by
        have := congrArg List.length h
        simp at this
        omega
      have g3 : x.drop (sgL neg).length = c :: m.take p ++ 46 :: (m.drop p ++ 32 :: b) := by rw [g3]; simp
      have w1 := zgo g3 hc hd1 (by decide)
      have d2 := zbv g3
      have f1 := zga d2 hd2 zdL hne
      have d3 : x.drop ((sgL neg).length + (c :: m.take p).length + 1 + (m.drop p).length) = 32 :: b := zbv (zbv (ds := [46]) d2)
      have x1 := zeo (pw := powP) d3 (by decide) (by decide)
      have r1 := hr 0 0 (0 - ((m.drop p).length : Int)) (by simp only [List.length_drop, List.length_cons] at *; omega)
      have e2 : (sgL neg ++ (c :: m.take p ++ [46] ++ m.drop p)).length = (sgL neg).length + (c :: m.take p).length + 1 + (m.drop p).length := by
        simp only [List.length_append, List.length_cons, List.length_nil]
        omega
      rw [e2]
      refine zdc g1 g2 w1 (by simp) f1 x1 ?_
      have e3 : c :: m.take p ++ m.drop p = zs 0 ++ ((c :: m) ++ zs 0) := by simp
      rw [e3]
      exact r1
    · by_cases k3 : -6 ≤ (c :: m).length + e ∧ (c :: m).length + e ≤ 0
      · rw [zmD k1 k3.1 k3.2]
        generalize hz : (-((c :: m).length + e)).toNat = z
        obtain ⟨g1, g2, g3⟩ := zlj neg (c := 48) (r := 46 :: ((zs z ++ (c :: m)) ++ 32 :: b)) (by decide)
        have ex : sgL neg ++ ([48, 46] ++ zs z ++ (c :: m) ++ 32 :: b) = sgL neg ++ 48 :: 46 :: ((zs z ++ (c :: m)) ++ 32 :: b) := by simp
        rw [ex]
        generalize sgL neg ++ 48 :: 46 :: ((zs z ++ (c :: m)) ++ 32 :: b) = x at *
        have hd1 : ∀ b ∈ zs z ++ (c :: m), isD b = true := fun b hb => by
          rcases List.mem_append.1 hb with hb | hb
          · rw [List.eq_of_mem_replicate hb]
            rfl
          · exact hd b hb
        have w1 := zjC g3
        have d2 : x.drop ((sgL neg).length + 1) = 46 :: ((zs z ++ (c :: m)) ++ 32 :: b) := zbv (ds := [48]) g3
        have f1 := zga d2 hd1 zdL (by simp)
        have d3 : x.drop ((sgL neg).length + 1 + 1 + (zs z ++ (c :: m)).length) = 32 :: b := zbv (zbv (ds := [46]) d2)
        have x1 := zeo (pw := powP) d3 (by decide) (by decide)
        have r1 := hr (z + 1) 0 (0 - ((zs z ++ (c :: m)).length : Int)) (by simp only [List.length_append, List.length_replicate]; omega)
        have e2 : (sgL neg ++ ([48, 46] ++ zs z ++ (c :: m))).length = (sgL neg).length + 1 + 1 + (zs z ++ (c :: m)).length := by
          simp only [List.length_append, List.length_cons, List.length_nil]
          omega
        rw [e2]
        refine zdc g1 g2 w1 (by simp) f1 x1 ?_
        have e3 : [48] ++ (zs z ++ (c :: m)) = zs (z + 1) ++ ((c :: m) ++ zs 0) := by simp [List.replicate_succ]
        rw [e3]
        exact r1
      · rw [zls k1 k2 k3]
        have q0 : -1000000 ≤ ((c :: m).length : Int) + e - 1 := by omega
        have q1 : ((c :: m).length : Int) + e - 1 ≤ 1000000 := by omega
        have hI : ((c :: m).length : Int) + e - 1 - m.length = e := by simp only [List.length_cons]; omega
        generalize ((c :: m).length : Int) + e - 1 = k at *
        match m with
        | [] =>
          have ex : sgL neg ++ ([c].take 1 ++ (if 1 < [c].length then [46] ++ [c].drop 1 else []) ++ [101] ++ Lib.itoa k ++ 32 :: b) = sgL neg ++ c :: 101 :: (Lib.itoa k ++ 32 :: b) := by simp
          obtain ⟨g1, g2, g3⟩ := zlj neg (c := c) (r := 101 :: (Lib.itoa k ++ 32 :: b)) hc0
          rw [ex]
          generalize sgL neg ++ c :: 101 :: (Lib.itoa k ++ 32 :: b) = x at *
          have w1 := zgo (ds := []) g3 hc hd (by decide)
          have d2 : x.drop ((sgL neg).length + [c].length) = 101 :: (Lib.itoa k ++ 32 :: b) := zbv (ds := [c]) g3
          have f1 := zgj d2 (by decide)
          have x1 := ziZ d2 zdL q0 q1
          have r1 := hr 0 0 (k - 0) (by simp at hI ⊢; omega)
          have e2 : (sgL neg ++ ([c].take 1 ++ (if 1 < [c].length then [46] ++ [c].drop 1 else []) ++ [101] ++ Lib.itoa k)).length = (sgL neg).length + [c].length + 1 + (Lib.itoa k).length := by
            simp
            omega
          rw [e2]
          refine zdc g1 g2 w1 (by simp) f1 x1 ?_
          simpa using r1
        | d :: m =>
          have hdd := zhL (hd d (by simp))
          have ex : sgL neg ++ ((c :: d :: m).take 1 ++ (if 1 < (c :: d :: m).length then [46] ++ (c :: d :: m).drop 1 else []) ++ [101] ++ Lib.itoa k ++ 32 :: b) = sgL neg ++ c :: 46 :: ((d :: m) ++ 101 :: (Lib.itoa k ++ 32 :: b)) := by simp
          obtain ⟨g1, g2, g3⟩ := zlj neg (c := c) (r := 46 :: ((d :: m) ++ 101 :: (Lib.itoa k ++ 32 :: b))) hc0
          rw [ex]
          generalize sgL neg ++ c :: 46 :: ((d :: m) ++ 101 :: (Lib.itoa k ++ 32 :: b)) = x at *
          have hd1 : ∀ b ∈ d :: m, isD b = true := fun b hb => hd b (List.mem_cons_of_mem _ hb)
          have w1 := zgo (ds := []) g3 hc (fun b hb => hd b (by rw [List.mem_singleton.1 hb]; simp)) (by decide)
          have d2 : x.drop ((sgL neg).length + [c].length) = 46 :: ((d :: m) ++ 101 :: (Lib.itoa k ++ 32 :: b)) := zbv (ds := [c]) g3
          have f1 := zga d2 hd1 (by decide) (by simp)
          have d3 : x.drop ((sgL neg).length + [c].length + 1 + (d :: m).length) = 101 :: (Lib.itoa k ++ 32 :: b) := zbv (zbv (ds := [46]) d2)
          have x1 := ziZ d3 zdL q0 q1
          have r1 := hr 0 0 (k - ((d :: m).length : Int)) (by omega)
          have e2 : (sgL neg ++ ((c :: d :: m).take 1 ++ (if 1 < (c :: d :: m).length then [46] ++ (c :: d :: m).drop 1 else []) ++ [101] ++ Lib.itoa k)).length = (sgL neg).length + [c].length + 1 + (d :: m).length + 1 + (Lib.itoa k).length := by
            simp
            omega
          rw [e2]
          refine zdc g1 g2 w1 (by simp) f1 x1 ?_
          have e3 : [c] ++ (d :: m) = zs 0 ++ ((c :: d :: m) ++ zs 0) := by simp
          rw [e3]
          exact r1

theorem zjT (neg : Bool) (s : List UInt8) (e : Int) (h : RightP neg s e) (b : List UInt8) : parseG powP (textF neg s e ++ 32 :: b) = ((neg, s, e), (textF neg s e).length, 0) := by
  unfold textF
  rw [if_neg (fun h2 => h2 h)]
  by_cases h0 : s.length = 0
  · rw [if_pos h0]
    obtain ⟨rfl, rfl⟩ := (zfn h0).1 h
    obtain rfl := zia h0
    have d0 : ([48] ++ 32 :: b).drop 0 = 48 :: 32 :: b := rfl
    have w1 := zjC d0
    have d1 : ([48] ++ 32 :: b).drop (0 + 1) = 32 :: b := rfl
    exact zdc (neg := false) (by unfold sg0; rw [if_neg (by rw [zbS d0]; decide)]) (decide_eq_false (by rw [zbS d0]; decide)) w1 (by simp) (zgj d1 (by decide)) (zeo d1 (by decide) (by decide)) (zeJ false _)
  · rw [if_neg h0, List.append_assoc]
    exact ziu neg s e h h0 b

mutual
def textJ : J → List UInt8
  | .mk k y n d e t l ks => if k = 0 then nullW else if k = 1 then (if y = true then trueW else falseW) else if k = 2 then textF n d e else if k = 3 then quoteL t
    else if k = 4 then [91] ++ partsT false true l ks ++ [93] else [123] ++ partsT (decide (k = 5)) true l ks ++ [125]
def partsT (mp : Bool) : Bool → List J → List (List UInt8) → List UInt8
  | _, [], _ => []
  | first, x :: r, ks => aheadT mp first ks ++ textJ x ++ partsT mp false r ks.tail
end

theorem zoJ : endsNum 32 := by decide
theorem zhq (neg : Bool) (s : List UInt8) (e : Int) (h : RightP neg s e) (b : List UInt8) (hb : b = [] ∨ ∃ a r, b = a :: r ∧ endsNum a) : parseG powP (textF neg s e ++ b) = ((neg, s, e), (textF neg s e).length, 0) := by
  have h1 := zjT neg s e h []
  rw [zhg zoJ] at h1
  rcases hb with rfl | ⟨a, r, rfl, ha⟩
  · rw [List.append_nil]
    exact h1
  · rw [zhg ha]
    exact h1

theorem ziv {pw : List UInt8 → Int} {s : List UInt8} (h : (parseG pw s).2.2 = 0) : ∃ c r, s = c :: r ∧ (c = 45 ∨ isD c = true) := by
  by_cases h45 : sat s 0 45
  · match s, h45 with
    | c :: r, h45 => exact ⟨c, r, rfl, .inl (by
        have : ((c.toNat : Nat) : Int) = 45 := h45.2
        exact UInt8.toNat_inj.1 (by show c.toNat = 45; omega))⟩
    | [], h45 => exact absurd h45.1 (Nat.lt_irrefl _)
  · have e0 : sg0 s = 0 := if_neg h45
    have hw : ¬ (whN s 0).1 = [] := fun q => by
      unfold parseG at h
      rw [e0, if_pos q] at h
      cases h
    match s, hw with
    | [], hw => exact absurd rfl hw
    | c :: r, hw =>
      refine ⟨c, r, rfl, .inr ?_⟩
      cases hc : isD c with
      | true => rfl
      | false =>
        exfalso
        apply hw
        unfold whN
        rw [if_neg (fun q => znH hc q.2)]
        show dgT (c :: r) 0 = []
        unfold dgT
        rw [List.drop_zero, List.takeWhile_cons, hc]
        rfl
theorem zhz {neg : Bool} {s : List UInt8} {e : Int} (h : RightP neg s e) : ∃ c r, textF neg s e = c :: r ∧ (c = 45 ∨ isD c = true) := by
  have := zhq neg s e h [] (.inl rfl)
  rw [List.append_nil] at this
  exact ziv (by rw [this])
def begins (c : UInt8) : Prop := c = 110 ∨ c = 116 ∨ c = 102 ∨ c = 34 ∨ c = 91 ∨ c = 123 ∨ c = 45 ∨ isD c = true
theorem zeN {c : UInt8} (h : begins c) : blkB c = false ∧ ¬ (c.toNat : Int) = 93 ∧ ¬ (c.toNat : Int) = 125 := by
  rcases h with rfl | rfl | rfl | rfl | rfl | rfl | rfl | h
  · decide
  · decide
  · decide
  · decide
  · decide
  · decide
  · decide
  · have := zcm.1 h
    refine ⟨decide_eq_false fun q => ?_, by omega, by omega⟩
    rcases q with rfl | rfl | rfl | rfl <;> revert h <;> decide
theorem zeu {neg : Bool} {s : List UInt8} {e : Int} (h : rightB neg s e = true) : RightP neg s e := of_decide_eq_true h
theorem zcq {d : Nat} {x : J} (h : rightJ d x = true) : ∃ c r, textJ x = c :: r ∧ begins c := by
  cases d with
  | zero => cases h
  | succ d =>
    obtain ⟨k, y, n, dg, e, t, l, ks⟩ := x
    rw [zes] at h
    rw [textJ]
    by_cases k0 : k = 0
    · subst k0
      exact ⟨110, [117, 108, 108], rfl, .inl rfl⟩
    rw [if_neg k0]
    by_cases k1 : k = 1
    · subst k1
      rw [if_pos rfl]
      cases y with
      | true => exact ⟨116, [114, 117, 101], rfl, .inr (.inl rfl)⟩
      | false => exact ⟨102, [97, 108, 115, 101], rfl, .inr (.inr (.inl rfl))⟩
    rw [if_neg k1]
    rw [if_neg (fun q => q.elim k0 k1)] at h
    by_cases k2 : k = 2
    · subst k2
      rw [if_pos rfl] at h ⊢
      obtain ⟨c, r, h1, h2⟩ := zhz (zeu h)
      exact ⟨c, r, h1, h2.elim (fun q => by rw [q]; exact .inr (.inr (.inr (.inr (.inr (.inr (.inl rfl))))))) fun q => .inr (.inr (.inr (.inr (.inr (.inr (.inr q))))))⟩
    rw [if_neg k2] at h ⊢
    by_cases k3 : k = 3
    · subst k3
      rw [if_pos rfl] at h ⊢
      obtain ⟨r, h1⟩ := zcc h
      exact ⟨34, r, h1, .inr (.inr (.inr (.inl rfl)))⟩
    rw [if_neg k3]
    by_cases k4 : k = 4
    · subst k4
      exact ⟨91, _, rfl, .inr (.inr (.inr (.inr (.inl rfl))))⟩
    rw [if_neg k4]
    exact ⟨123, _, rfl, .inr (.inr (.inr (.inr (.inr (.inl rfl)))))⟩

theorem zir (mp : Bool) (x : J) (l : List J) (ks : List (List UInt8)) : partsT mp false (x :: l) ks = 44 :: partsT mp true (x :: l) ks := by
  rw [partsT, partsT, zlN]
  rfl

def Back (d : Nat) : Prop := ∀ x, rightJ d x = true → ∀ s i b, s.drop i = textJ x ++ b → (b = [] ∨ ∃ a r, b = a :: r ∧ endsNum a) → ∃ y, jval s d i = .inl (y, i + (textJ x).length) ∧ sameJ x y = true

theorem zlv {d : Nat} (ih : Back d) (mp : Bool) : ∀ (l : List J) (x : J) (ks kacc : List (List UInt8)) (acc : List J) (s : List UInt8) (i : Nat) (b : List UInt8), s.drop i = partsT mp true (x :: l) ks ++ endU mp :: b → (∀ y ∈ x :: l, rightJ d y = true) →
    (mp = true → ks.length = l.length + 1 ∧ (kacc ++ ks).Nodup ∧ ∀ k ∈ ks, validL k = true) →
    ∃ l', l'.length = l.length + 1 ∧ sameL (x :: l) l' = true ∧ jgo s (jval s d) mp i acc kacc = .inl (manyV mp (acc ++ l') (if mp = true then kacc ++ ks else kacc), i + (partsT mp true (x :: l) ks).length + 1) := by
  intro l
  induction l with
  | nil =>
    intro x ks kacc acc s i b h hr hk
    rw [partsT, partsT, List.append_nil] at h ⊢
    have hne : ∃ c r, s.drop i = c :: r := by
      obtain ⟨c, r, h1, _⟩ := zcq (hr x (by simp))
      rw [h, h1]
      cases ha : aheadT mp true ks with
      | nil => exact ⟨_, _, rfl⟩
      | cons c r => exact ⟨_, _, rfl⟩
    obtain ⟨c0, r0, h0⟩ := hne
    have hi := zib h0
    rw [List.append_assoc] at h
    have k1 := zhu (kacc := kacc) h (fun q => by
      obtain ⟨q1, q2, q3⟩ := hk q
      match ks, q1 with
      | k :: kr, _ => exact ⟨k, kr, rfl, fun q => (List.nodup_append.1 q2).2.2 k q k (by simp) rfl, q3 k (by simp)⟩)
    have d1 := zel h
    obtain ⟨y, v1, sm⟩ := ih x (hr x (by simp)) s _ _ d1 (.inr ⟨_, _, rfl, (zcI mp).1⟩)
    have d2 := zel d1
    have p2 := zcy d2 (zcI mp).2.1
    have a2 := zge d2
    rw [(zcI mp).2.2] at a2
    refine ⟨[y], rfl, by rw [sameL, sm, sameL]; rfl, ?_⟩
    rw [zjj (zkS s d) hi, k1]
    dsimp only
    rw [v1]
    dsimp only
    rw [p2]
    dsimp only
    rw [if_pos a2]
    refine congrArg Sum.inl (Prod.ext ?_ ?_)
    · dsimp only
      cases mp with
      | false => rfl
      | true =>
        obtain ⟨q1, _⟩ := hk rfl
        match ks, q1 with
        | [k], _ => rfl
    · dsimp only
      rw [List.length_append]
      omega
  | cons x2 l il =>
    intro x ks kacc acc s i b h hr hk
    rw [partsT, zir] at h ⊢
    have hne : ∃ c r, s.drop i = c :: r := by
      obtain ⟨c, r, h1, _⟩ := zcq (hr x (by simp))
      rw [h, h1]
      cases ha : aheadT mp true ks with
      | nil => exact ⟨_, _, rfl⟩
      | cons c r => exact ⟨_, _, rfl⟩
    obtain ⟨c0, r0, h0⟩ := hne
    have hi := zib h0
    rw [List.append_assoc, List.append_assoc] at h
    have k1 := zhu (kacc := kacc) h (fun q => by
      obtain ⟨q1, q2, q3⟩ := hk q
      match ks, q1 with
      | k :: kr, _ => exact ⟨k, kr, rfl, fun q => (List.nodup_append.1 q2).2.2 k q k (by simp) rfl, q3 k (by simp)⟩)
    have d1 := zel h
    obtain ⟨y, v1, sm⟩ := ih x (hr x (by simp)) s _ _ d1 (.inr ⟨44, _, rfl, by decide⟩)
    have d2 := zel d1
    have p2 := zcy d2 (by decide)
    have a2 : at' s ((i + (aheadT mp true ks).length + (textJ x).length : Nat) : Int) = 44 := zge d2
    have d3 : s.drop (i + (aheadT mp true ks).length + (textJ x).length + 1) = partsT mp true (x2 :: l) ks.tail ++ endU mp :: b := zel (ds := [44]) d2
    obtain ⟨l', q1, q2, q3⟩ := il x2 ks.tail (if mp = true then kacc ++ [ks.headD []] else kacc) (acc ++ [y]) s _ b d3 (fun z hz => hr z (List.mem_cons_of_mem _ hz)) (fun q => by
      obtain ⟨q1, q2, q3⟩ := hk q
      match ks, q1, q2, q3 with
      | k :: kr, q1, q2, q3 =>
        refine ⟨by simpa using q1, ?_, fun z hz => q3 z (List.mem_cons_of_mem _ hz)⟩
        rw [if_pos q]
        show ((kacc ++ [k]) ++ kr).Nodup
        rw [List.append_assoc]
        exact q2)
    refine ⟨y :: l', by rw [List.length_cons, q1]; rfl, by rw [sameL, sm, q2]; rfl, ?_⟩
    rw [zjj (zkS s d) hi, k1]
    dsimp only
    rw [v1]
    dsimp only
    rw [p2]
    dsimp only
    have ne : ¬ at' s ((i + (aheadT mp true ks).length + (textJ x).length : Nat) : Int) = endM mp := by
      rw [a2]
      cases mp <;> decide
    rw [if_neg ne, if_pos a2]
    rw [q3]
    refine congrArg Sum.inl (Prod.ext ?_ ?_)
    · dsimp only
      rw [List.append_assoc]
      cases mp with
      | false => rfl
      | true =>
        obtain ⟨q1, _⟩ := hk rfl
        match ks, q1 with
        | k :: kr, _ =>
          show manyV true _ ((kacc ++ [k]) ++ kr) = manyV true _ (kacc ++ (k :: kr))
          rw [List.append_assoc]
          rfl
    · dsimp only
      simp only [List.length_append, List.length_cons]
      omega

theorem back : ∀ d, Back d := by
  intro d
  induction d with
  | zero => intro x h; cases h
  | succ d ih =>
    intro x h s i b hs hb
    obtain ⟨c, r, h1, h2⟩ := zcq h
    have hc : s.drop i = c :: (r ++ b) := by rw [hs, h1]; rfl
    have p0 := zcy hc (zeN h2).1
    have a0 := zge hc
    obtain ⟨k, y, n, dg, e, t, l, ks⟩ := x
    rw [zes] at h
    rw [jval, p0]
    dsimp only
    rw [textJ] at hs h1 ⊢
    by_cases k0 : k = 0
    · subst k0
      rw [if_pos rfl] at hs h1 ⊢
      obtain rfl : c = 110 := (List.cons.inj h1).1.symm
      rw [if_pos (show at' s (i : Int) = 110 from a0), zhT hs]
      exact ⟨_, rfl, by rw [j0, sameJ]; simp⟩
    rw [if_neg k0] at hs h1 ⊢
    by_cases k1 : k = 1
    · subst k1
      rw [if_pos rfl] at hs h1 ⊢
      cases y with
      | true =>
        rw [if_pos rfl] at hs h1 ⊢
        obtain rfl : c = 116 := (List.cons.inj h1).1.symm
        rw [if_neg (show ¬ at' s (i : Int) = 110 by rw [a0]; decide), if_pos (show at' s (i : Int) = 116 from a0), zhT hs]
        exact ⟨_, rfl, by rw [sameJ]; simp⟩
      | false =>
        rw [if_neg Bool.false_ne_true] at hs h1 ⊢
        obtain rfl : c = 102 := (List.cons.inj h1).1.symm
        rw [if_neg (show ¬ at' s (i : Int) = 110 by rw [a0]; decide), if_neg (show ¬ at' s (i : Int) = 116 by rw [a0]; decide), if_pos (show at' s (i : Int) = 102 from a0), zhT hs]
        exact ⟨_, rfl, by rw [sameJ]; simp⟩
    rw [if_neg k1] at hs h1 ⊢
    rw [if_neg (fun q => q.elim k0 k1)] at h
    by_cases k2 : k = 2
    · subst k2
      rw [if_pos rfl] at h hs h1 ⊢
      have hR := zeu h
      obtain ⟨c', r', h3, h4⟩ := zhz hR
      rw [h3] at h1
      obtain rfl : c' = c := (List.cons.inj h1).1
      have hn : (c'.toNat : Int) = 45 ∨ 48 ≤ (c'.toNat : Int) ∧ (c'.toNat : Int) ≤ 57 := by
        rcases h4 with rfl | h4
        · exact .inl rfl
        · exact .inr (zcm.1 h4)
      rw [if_neg (by rw [a0]; omega), if_neg (by rw [a0]; omega), if_neg (by rw [a0]; omega), if_neg (by rw [a0]; omega), if_neg (by rw [a0]; omega), if_neg (by rw [a0]; omega)]
      unfold jnum
      rw [hs, zhq n dg e hR b hb]
      dsimp only
      rw [if_pos rfl]
      exact ⟨_, rfl, by rw [jnumV, sameJ]; simp⟩
    rw [if_neg k2] at h hs h1 ⊢
    by_cases k3 : k = 3
    · subst k3
      rw [if_pos rfl] at h hs h1 ⊢
      obtain ⟨r', h3⟩ := zcc h
      rw [h3] at h1
      obtain rfl : (34 : UInt8) = c := (List.cons.inj h1).1
      rw [if_neg (by rw [a0]; decide), if_neg (by rw [a0]; decide), if_neg (by rw [a0]; decide), if_pos (show at' s (i : Int) = 34 from a0), zkU h hs]
      exact ⟨_, rfl, by rw [sameJ]; simp⟩
    rw [if_neg k3] at h hs h1 ⊢
    by_cases k4 : k = 4
    · subst k4
      rw [if_pos rfl] at hs h1 ⊢
      rw [if_neg (by decide), if_pos rfl] at h
      obtain rfl : (91 : UInt8) = c := (List.cons.inj h1).1
      rw [if_neg (by rw [a0]; decide), if_neg (by rw [a0]; decide), if_neg (by rw [a0]; decide), if_neg (by rw [a0]; decide), if_pos (show at' s (i : Int) = 91 from a0)]
      have d1 : s.drop (i + 1) = partsT false true l ks ++ endU false :: b := zel (ds := [91]) (by rw [hs]; simp [endU])
      unfold jmany
      cases l with
      | nil =>
        have d1 : s.drop (i + 1) = endU false :: b := d1
        rw [zcy d1 (zcI false).2.1]
        dsimp only
        rw [if_pos (show at' s ((i + 1 : Nat) : Int) = endM false from zge d1)]
        exact ⟨_, rfl, by rw [manyV, kindM, sameJ]; simp [sameL]⟩
      | cons x l =>
        obtain ⟨l', q1, q2, q3⟩ := zlv ih false l x ks [] [] s (i + 1) b d1 (fun y hy => List.all_eq_true.1 h y hy) (fun q => by cases q)
        obtain ⟨c1, r1, t1, t2⟩ := zcq (List.all_eq_true.1 h x (by simp))
        have d1' : s.drop (i + 1) = c1 :: (r1 ++ partsT false false l ks.tail ++ endU false :: b) := by
          rw [d1, partsT, t1]
          rfl
        rw [zcy d1' (zeN t2).1]
        dsimp only
        rw [if_neg (show ¬ at' s ((i + 1 : Nat) : Int) = endM false by rw [zge d1']; exact (zeN t2).2.1), q3]
        refine ⟨_, congrArg Sum.inl (Prod.ext rfl ?_), ?_⟩
        · dsimp only
          simp only [List.length_append, List.length_cons, List.length_nil]
          omega
        · rw [manyV, kindM, List.nil_append, if_neg Bool.false_ne_true, sameJ]
          simp [q1, q2]
    rw [if_neg k4] at hs h1 ⊢
    by_cases k5 : k = 5
    · subst k5
      rw [if_pos rfl] at h
      rw [decide_eq_true rfl] at hs ⊢
      rw [Bool.and_eq_true, Bool.and_eq_true, decide_eq_true_eq] at h
      obtain ⟨⟨hk, hkl⟩, h⟩ := h
      obtain rfl : (123 : UInt8) = c := (List.cons.inj h1).1
      rw [if_neg (by rw [a0]; decide), if_neg (by rw [a0]; decide), if_neg (by rw [a0]; decide), if_neg (by rw [a0]; decide), if_neg (by rw [a0]; decide), if_pos (show at' s (i : Int) = 123 from a0)]
      have d1 : s.drop (i + 1) = partsT true true l ks ++ endU true :: b := zel (ds := [123]) (by rw [hs]; simp [endU])
      unfold jmany
      cases l with
      | nil =>
        have d1 : s.drop (i + 1) = endU true :: b := d1
        rw [zcy d1 (zcI true).2.1]
        dsimp only
        rw [if_pos (show at' s ((i + 1 : Nat) : Int) = endM true from zge d1)]
        obtain rfl : ks = [] := List.length_eq_zero_iff.1 hkl
        exact ⟨_, rfl, by rw [manyV, kindM, sameJ]; simp [sameL]⟩
      | cons x l =>
        unfold keysOk at hk
        rw [Bool.and_eq_true, decide_eq_true_eq, List.all_eq_true] at hk
        obtain ⟨l', q1, q2, q3⟩ := zlv ih true l x ks [] [] s (i + 1) b d1 (fun y hy => List.all_eq_true.1 h y hy) (fun _ => ⟨hkl, hk.1, hk.2⟩)
        match ks, hkl, hk with
        | k :: kr, hkl, hk =>
        obtain ⟨r1, t1⟩ := zcc (hk.2 k (by simp))
        have d1' : s.drop (i + 1) = 34 :: (r1 ++ [58] ++ textJ x ++ partsT true false l kr ++ endU true :: b) := by
          rw [d1, partsT]
          show (quoteL k ++ [58]) ++ textJ x ++ _ ++ _ = _
          rw [t1]
          simp
        rw [zcy d1' (by decide)]
        dsimp only
        rw [if_neg (show ¬ at' s ((i + 1 : Nat) : Int) = endM true by rw [zge d1']; decide), q3]
        refine ⟨_, congrArg Sum.inl (Prod.ext rfl ?_), ?_⟩
        · dsimp only
          simp only [List.length_append, List.length_cons, List.length_nil]
          omega
        · rw [manyV, kindM, List.nil_append, if_pos rfl, if_pos rfl, List.nil_append, sameJ]
          simp [q1, q2]
    · rw [if_neg k5, if_neg k4] at h
      cases h

theorem zmm : Ctr Tryz.prog 98 [dcD false [] 0] (.s [48]) := by
  have c1 := zdD false [] 0 (by decide)
  have hr : rightB false [] 0 = true := by decide
  rw [hr] at c1
  refine zbe Tryz.func98 rfl Tryz.ntmps98 Tryz.results98 rfl rfl fun X hL hX => ?_
  repeat' (first |with_reducible (first |refine zaK ?_|refine zaj ?_|refine zaL ?_|refine zaB ?_|refine zaO ?_|refine zaD ?_|refine zaC ?_|refine zar ?_|refine zaq ?_|refine zaI ?_|refine zaE ?_|refine zas ?_|refine zaH ?_)|refine zaw rfl rfl True.intro ?_|refine zau rfl rfl rfl ?_|refine zao rfl rfl rfl ?_|refine zag rfl rfl rfl rfl True.intro ?_|refine zaF rfl ?_|refine zat rfl ?_|((first |refine zal rfl ?_ ?_|refine zan rfl ?_ ?_|refine zak rfl ?_ ?_|refine zam rfl ?_ ?_|refine zap rfl ?_ ?_|refine zaA rfl ?_ ?_|refine zad rfl rfl ?_ ?_|refine zae rfl rfl ?_ ?_|refine zaf rfl rfl ?_ ?_|refine zac rfl rfl ?_ ?_|refine zab rfl rfl ?_ ?_)<;>intro<;>try (first |(rename_i hz;first |exact tf_ hz|exact ft_ hz)|(exfalso;omega)))|((first |refine zaw rfl rfl ?_ ?_|refine zag rfl rfl rfl rfl ?_ ?_|refine zaM rfl rfl ?_ ?_|refine zaJ rfl ?_ ?_|refine zaG rfl rfl rfl rfl ?_ ?_);focus (first |omega|exact le_ rfl|((repeat first |rw [zay]|rw [wi6_]|rw [wi3_]|rw [zai]|rw [zah]);(repeat' refine And.intro ?_ ?_)<;>omega)|((repeat' refine And.intro ?_ ?_)<;>first |omega|rfl|exact Nat.le_refl _|exact le_ rfl|exact zaa _)|(simp_all;done)|(simp_all;omega)))|refine zaP rfl ?_|refine zaz rfl ?_|with_reducible refine ⟨by kernel_rfl, ?_⟩|refine zaQ rfl ?_|refine zaR (f := 113) rfl rfl Tryz.call113 rfl c1 ?_|((with_reducible refine zaN ?_);(fail_if_success (refine zax true rfl rfl rfl ?_));(fail_if_success (refine zax false rfl rfl rfl ?_));refine zav rfl rfl (fun _ => ?_) (fun _ => ?_)))
  all_goals rfl

theorem znd (neg : Bool) (s : List UInt8) (e : Int) (hs : s.length ≤ 1048576) : Ctr Tryz.prog 98 [dcD neg s e] (.s (textF neg s e)) := by
  by_cases h : RightP neg s e
  · by_cases h0 : s.length = 0
    · obtain ⟨rfl, rfl⟩ := (zfn h0).1 h
      obtain rfl := zia h0
      exact zmm
    · have := zpa neg s e h h0
      unfold textF
      rw [if_neg (fun h2 => h2 h), if_neg h0]
      exact this
  · have := znA neg s e hs h
    unfold textF
    rw [if_pos h]
    exact this

def ordF (na : Bool) (sa : List UInt8) (ea : Int) (nb : Bool) (sb : List UInt8) (eb : Int) : Int :=
  if ¬ RightP na sa ea ∨ ¬ RightP nb sb eb then 0 else orderF na sa ea nb sb eb

theorem zgQ {neg : Bool} {s : List UInt8} {e : Int} (h : RightP neg s e) : (textF neg s e).length ≤ 1000 := by
  obtain ⟨b1, b2, b3, _⟩ := h.bounds
  have l4 := ziP (s.length + e - 1) (by omega) (by omega)
  have lu : (textU s e).length ≤ 900 := by
    unfold textU
    split
    · simp only [List.length_append, List.length_replicate]
      omega
    · split
      · simp only [List.length_append, List.length_take, List.length_drop, List.length_cons, List.length_nil]
        omega
      · split
        · simp only [List.length_append, List.length_replicate, List.length_cons, List.length_nil]
          omega
        · have : (if 1 < s.length then ([46] : List UInt8) ++ s.drop 1 else []).length ≤ 200 := by
            split
            · simp only [List.length_append, List.length_drop, List.length_cons, List.length_nil]
              omega
            · simp
          simp only [List.length_append, List.length_take, List.length_cons, List.length_nil]
          omega
  unfold textF
  rw [if_neg (fun h2 => h2 h)]
  split
  · simp
  · have : (if neg = true then ([45] : List UInt8) else []).length ≤ 1 := by split <;> simp
    rw [List.length_append]
    omega

theorem zjD (s : List UInt8) : (quoteL s).length ≤ 6 * s.length + 2 := by
  have := zlK s
  unfold quoteL
  split
  · simp
    omega
  · simp

theorem zfy (mp : Bool) (x : J) : ∀ (l : List J) (f : Bool) (ks : List (List UInt8)), partsT mp f (l ++ [x]) ks = partsT mp f l ks ++ (aheadT mp (f && l.isEmpty) (ks.drop l.length) ++ textJ x)
  | [], f, ks => by
    rw [List.nil_append, partsT, partsT, partsT, List.append_nil]
    cases f <;> rfl
  | y :: l, f, ks => by
    rw [List.cons_append, partsT, zfy mp x l false ks.tail, partsT]
    simp only [List.append_assoc, List.length_cons, List.isEmpty_cons, Bool.and_false, Bool.false_and, List.drop_tail]
def partN (mp : Bool) (l : List J) (ks : List (List UInt8)) (i : Nat) : List UInt8 := partsT mp true (l.take i) ks
theorem zjE (mp : Bool) (l : List J) (ks : List (List UInt8)) : partN mp l ks 0 = [] := by
  unfold partN
  rw [List.take_zero, partsT]
theorem zhr (mp : Bool) (l : List J) (ks : List (List UInt8)) : partN mp l ks l.length = partsT mp true l ks := by
  unfold partN
  rw [List.take_length]
theorem zfP (mp : Bool) {l : List J} (ks : List (List UInt8)) {i : Nat} (h : i < l.length) :
    partN mp l ks (i + 1) = ((partN mp l ks i ++ (if i = 0 then [] else [44])) ++ (if mp = true then quoteL (ks.getD i []) ++ [58] else [])) ++ textJ (l.getD i j0) := by
  unfold partN
  have e : l.take (i + 1) = l.take i ++ [l.getD i j0] := by
    rw [List.take_add_one]
    have : l[i]? = some (l.getD i j0) := by simp [List.getD_eq_getElem?_getD, h]
    rw [this]
    rfl
  rw [e, zfy]
  have e2 : (true && (l.take i).isEmpty) = decide (i = 0) := by
    by_cases h0 : i = 0
    · subst h0
      rw [List.take_zero]
      rfl
    · rw [decide_eq_false h0, Bool.true_and]
      cases hq : (l.take i).isEmpty with
      | false => rfl
      | true =>
        have := List.isEmpty_iff_length_eq_zero.1 hq
        rw [List.length_take] at this
        omega
  have e3 : (ks.drop (l.take i).length).headD [] = ks.getD i [] := by
    rw [List.length_take, Nat.min_eq_left (by omega)]
    simp [List.headD_eq_head?_getD, List.getD_eq_getElem?_getD, List.head?_drop]
  rw [e2]
  unfold aheadT
  rw [e3]
  simp only [List.append_assoc, decide_eq_true_eq]

theorem zgr (s : List UInt8) : (quoteL s).length ≤ 6 * s.length + 2 := zjD s
theorem zgk {d : Nat} (ih : ∀ x, rightJ d x = true → (textJ x).length + 4 ≤ 1010 * jb x) : ∀ (l : List J) (ks : List (List UInt8)) (mp f : Bool), l.all (rightJ d) = true → (partsT mp f l ks).length ≤ 1010 * (jbL l + txL ks)
  | [], _, _, _, _ => by
    rw [partsT]
    exact Nat.zero_le _
  | x :: r, ks, mp, f, h => by
    rw [List.all_cons, Bool.and_eq_true] at h
    have h1 := ih x h.1
    have h2 := zgk ih r ks.tail mp false h.2
    rw [partsT, jbL]
    have ha : (aheadT mp f ks).length + 1010 * txL ks.tail ≤ 1010 * txL ks + 4 := by
      unfold aheadT
      cases ks with
      | nil => cases f <;> cases mp <;> decide
      | cons k kr =>
        have := zgr k
        have e1 : (k :: kr).headD [] = k := rfl
        have e2 : (k :: kr).tail = kr := rfl
        rw [e1, e2, txL]
        cases f <;> cases mp <;> simp only [if_true, if_false, Bool.false_eq_true, List.length_append, List.length_cons, List.length_nil] <;> omega
    simp only [List.length_append]
    omega
theorem zld : ∀ (d : Nat) (x : J), rightJ d x = true → (textJ x).length + 4 ≤ 1010 * jb x := by
  intro d
  induction d with
  | zero => intro x h; cases h
  | succ d ih =>
    rintro ⟨k, y, n, dg, e, t, l, ks⟩ h
    have hp := zgk ih l ks
    rw [textJ, jb]
    rw [zes] at h
    have qt := zgr t
    by_cases k0 : k = 0
    · rw [if_pos k0]
      show 4 + 4 ≤ _
      omega
    rw [if_neg k0]
    by_cases k1 : k = 1
    · rw [if_pos k1]
      cases y
      · show 5 + 4 ≤ _
        omega
      · show 4 + 4 ≤ _
        omega
    rw [if_neg k1]
    rw [if_neg (fun q => q.elim k0 k1)] at h
    by_cases k2 : k = 2
    · rw [if_pos k2] at h ⊢
      have := zgQ (zeu h)
      omega
    rw [if_neg k2] at h ⊢
    by_cases k3 : k = 3
    · rw [if_pos k3]
      omega
    rw [if_neg k3] at h ⊢
    by_cases k4 : k = 4
    · rw [if_pos k4]
      rw [if_neg (by omega), if_pos k4] at h
      have := hp false true h
      simp only [List.length_append, List.length_cons, List.length_nil]
      omega
    rw [if_neg k4] at h ⊢
    by_cases k5 : k = 5
    · rw [if_pos k5, Bool.and_eq_true] at h
      have := hp (decide (k = 5)) true h.2
      simp only [List.length_append, List.length_cons, List.length_nil]
      omega
    · rw [if_neg k5] at h
      cases h

end Go.Proofs.YtcajofhafpkbdaaGreatDoor.Flow
