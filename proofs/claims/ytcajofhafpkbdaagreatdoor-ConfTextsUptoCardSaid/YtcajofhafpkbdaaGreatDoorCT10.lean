/- The texts U4, U5, U6, U7, U8, one behind the other. -/
import Derived.Test.YtcajofhafpkbdaaGreatDoorCT9
namespace Go.Proofs.YtcajofhafpkbdaaGreatDoor.Flow
open Go
def pairW (n m : Int) : Int := IntKind.i32.wrap (IntKind.i32.wrap (IntKind.i32.wrap (65536 + IntKind.i32.wrap (IntKind.i32.wrap (n - 55296) * 2 ^ (10 : Int).toNat)) + m) - 56320)
def pairF (n m : Int) : Int := 65536 + 1024 * (n - 55296) + m - 56320
theorem zro (n m : Int) (h0 : 55296 ≤ n) (h1 : n ≤ 56319) (h2 : 0 ≤ m) (h3 : m < 65536) : pairW n m = pairF n m := by
  unfold pairW pairF
  have e : (2 : Int) ^ Int.toNat 10 = 1024 := by decide
  rw [e, wrap_i32 (n - 55296) (by omega) (by omega), wrap_i32 ((n - 55296) * 1024) (by omega) (by omega), wrap_i32 (65536 + (n - 55296) * 1024) (by omega) (by omega), wrap_i32 (65536 + (n - 55296) * 1024 + m) (by omega) (by omega), wrap_i32 _ (by omega) (by omega)]
  omega
def lowP (s : List UInt8) (j : Int) : Int × Int × Int :=
  let a := mustF s j 0 92
  let b := mustF s a.1 a.2 117
  let y := fourF s b.1 b.2
  (y.1, y.2.1, if y.1 < 56320 ∨ 57343 < y.1 then failF y.2.2 3 else y.2.2)
theorem zbu (s : List UInt8) (i e c : Int) (h : 0 ≤ i) (h2 : i ≤ s.length) : i ≤ (mustF s i e c).1 ∧ (mustF s i e c).1 ≤ s.length ∧ (mustF s i e c).1 ≤ i + 1 := by
  have := zkG (e := e) h h2
  unfold mustF
  dsimp only
  omega
def codeP (s : List UInt8) (i : Int) (o : List UInt8) : Int × List UInt8 × Int :=
  let x := fourG s 4 0 i
  if x.2.2 = 0 then
    if 56320 ≤ x.1 ∧ x.1 ≤ 57343 then (x.2.1, o, 3)
    else if 55296 ≤ x.1 ∧ x.1 ≤ 56319 then
      (if (lowP s x.2.1).2.2 = 0 then ((lowP s x.2.1).2.1, o ++ utfB (pairF x.1 (lowP s x.2.1).1), 0) else ((lowP s x.2.1).2.1, o, (lowP s x.2.1).2.2))
    else (x.2.1, o ++ utfB x.1, 0)
  else (x.2.1, o, x.2.2)
section
variable {s : List UInt8} {i j j1 j2 j3 n m e e1 e2 e3 : Int} {o : List UInt8}
theorem zst (h1 : mustF s j 0 92 = (j1, e1)) (h2 : mustF s j1 e1 117 = (j2, e2)) (h3 : fourF s j2 e2 = (m, j3, e3)) : lowP s j = (m, j3, if m < 56320 ∨ 57343 < m then failF e3 3 else e3) := by
  simp only [lowP, h1, h2, h3]
theorem zoQ (h : fourG s 4 0 i = (n, j, e)) (h2 : ¬ e = 0) : codeP s i o = (j, o, e) := by
  simp only [codeP, h]
  rw [if_neg h2]
theorem zpa (h : fourG s 4 0 i = (n, j, 0)) (h2 : 56320 ≤ n) (h3 : n ≤ 57343) : codeP s i o = (j, o, 3) := by
  simp only [codeP, h]
  rw [if_pos trivial, if_pos ⟨h2, h3⟩]
theorem zfD (h : fourG s 4 0 i = (n, j, 0)) (h2 : n < 55296 ∨ 57343 < n) : codeP s i o = (j, o ++ utfB n, 0) := by
  simp only [codeP, h]
  rw [if_pos trivial, if_neg (by omega), if_neg (by omega)]
theorem zlZ (h : fourG s 4 0 i = (n, j, 0)) (h2 : 55296 ≤ n) (h3 : n ≤ 56319) (h4 : lowP s j = (m, j3, 0)) : codeP s i o = (j3, o ++ utfB (pairF n m), 0) := by
  simp only [codeP, h]
  rw [if_pos trivial, if_neg (by omega), if_pos ⟨h2, h3⟩, h4]
  rfl
theorem zho (h : fourG s 4 0 i = (n, j, 0)) (h2 : 55296 ≤ n) (h3 : n ≤ 56319) (h4 : lowP s j = (m, j3, e)) (h5 : ¬ e = 0) : codeP s i o = (j3, o, e) := by
  simp only [codeP, h]
  rw [if_pos trivial, if_neg (by omega), if_pos ⟨h2, h3⟩, h4]
  dsimp only
  rw [if_neg h5]
end
set_option maxHeartbeats 4000000 in
theorem zqo (s : List UInt8) (i : Int) (o : List UInt8) (hs : s.length ≤ 1099511627776) (h0 : 0 ≤ i) (h1 : i ≤ s.length) (ho : o.length ≤ 1099511627776) :
    CtrO Tryz.prog 154 [.pv 20 0] (rdl s i o 0) (.tu []) (rdl s (codeP s i o).1 (codeP s i o).2.1 (codeP s i o).2.2) := by
  have hn := zjK s i o hs h0 h1
  have hr := zcI s 4 0 i h0 h1 (by omega)
  generalize hR : codeP s i o = R
  generalize hx : fourG s 4 0 i = x at hn hr
  obtain ⟨n, j, e⟩ := x
  dsimp only at hn hr ⊢
  obtain ⟨r1, r2, r3, r4, r5, r6, _⟩ := hr
  have r2 : n < 65536 := by omega
  by_cases he : e = 0
  · subst he
    have hj0 : 0 ≤ j := by omega
    have q1 := zbu s j 0 92 hj0 r4
    have c1 := zhU s j o 0 92 hs hj0 r4
    generalize ha : mustF s j 0 92 = a at c1 q1
    obtain ⟨j1, e1⟩ := a
    dsimp only at c1 q1
    have hj1 : 0 ≤ j1 := by omega
    have q2 := zbu s j1 e1 117 hj1 q1.2.1
    have c2 := zhU s j1 o e1 117 hs hj1 q1.2.1
    generalize hb : mustF s j1 e1 117 = b at c2 q2
    obtain ⟨j2, e2⟩ := b
    dsimp only at c2 q2
    have hj2 : 0 ≤ j2 := by omega
    have q3 := zfH s j2 e2 hj2 q2.2.1
    have c3 := zqf s j2 o e2 hs hj2 q2.2.1
    generalize hy : fourF s j2 e2 = y at c3 q3
    obtain ⟨m, j3, e3⟩ := y
    dsimp only at c3 q3
    obtain ⟨y1, y2, y3, y4, y5, y6⟩ := q3
    have hne := zlS e3 3 (by omega)
    have hp : 55296 ≤ n → n ≤ 56319 → pairW n m = pairF n m := fun a b => zro n m a b y1 y2
    have hl := zst ha hb hy
    have hf := zcl s j o 0 3
    have hf3 := zcl s j3 o e3 3
    refine zaI Tryz.func154 rfl Tryz.ntmps154 Tryz.results154 rfl rfl rfl rfl rfl fun X hL hX => ?_
    repeat' (first |with_reducible (first |refine zag ?_|refine zaa ?_|refine zaf ?_|refine zad ?_|refine zah ?_|refine zae ?_|refine zap ?_)|refine zab rfl rfl True.intro ?_|refine zat rfl rfl rfl ?_|refine zak rfl rfl rfl rfl True.intro ?_|refine zav rfl ?_|refine zal rfl ?_|((first |refine zac rfl ?_ ?_|refine zan rfl rfl ?_ ?_)<;>intro<;>try (first |contradiction|(exfalso;omega)))|((first |refine zab rfl rfl ?_ ?_|refine zaw rfl ?_ ?_);focus (first |omega|exact le_ rfl|((repeat' refine And.intro ?_ ?_)<;>omega)|((repeat' refine And.intro ?_ ?_)<;>first |rfl|exact le_ rfl)))|refine zbT rfl rfl ?_|refine zax (f := 133) 20 200 rfl rfl Tryz.call133 rfl rfl rfl rfl rfl rfl rfl rfl rfl hf ?_|refine zax (f := 133) 20 200 rfl rfl Tryz.call133 rfl rfl rfl rfl rfl rfl rfl rfl rfl hf3 ?_|refine zax (f := 130) 20 200 rfl rfl Tryz.call130 rfl rfl rfl rfl rfl rfl rfl rfl rfl c1 ?_|refine zax (f := 130) 20 200 rfl rfl Tryz.call130 rfl rfl rfl rfl rfl rfl rfl rfl rfl c2 ?_|refine zax (f := 167) 20 200 rfl rfl Tryz.call167 rfl rfl rfl rfl rfl rfl rfl rfl rfl hn ?_|refine zax (f := 167) 20 200 rfl rfl Tryz.call167 rfl rfl rfl rfl rfl rfl rfl rfl rfl c3 ?_|refine zaq (f := 168) 200 rfl rfl Tryz.call168 rfl rfl rfl rfl rfl (zlw o n ho (by omega) (by omega) (by omega)) ?_|refine zaq (f := 168) 200 rfl rfl Tryz.call168 rfl rfl rfl rfl rfl (zlw o (pairW n m) ho (by rw [hp (by omega) (by omega)];unfold pairF;omega) (by rw [hp (by omega) (by omega)];unfold pairF;omega) (by rw [hp (by omega) (by omega)];unfold pairF;omega)) ?_|fail)
    · rw [← hR, zpa hx ‹_› ‹_›]
      exact ⟨⟨rfl, rfl, trivial⟩⟩
    · rw [← hR, zfD hx (by omega)]
      exact ⟨⟨rfl, rfl, trivial⟩⟩
    · rw [if_pos (.inl ‹_›)] at hl
      rw [← hR, zho hx (by omega) (by omega) hl hne]
      exact ⟨⟨rfl, rfl, trivial⟩⟩
    · rw [if_pos (.inr ‹_›)] at hl
      rw [← hR, zho hx (by omega) (by omega) hl hne]
      exact ⟨⟨rfl, rfl, trivial⟩⟩
    · rename_i he3
      subst he3
      rw [if_neg (by omega)] at hl
      rw [← hR, zlZ hx (by omega) (by omega) hl, hp (by omega) (by omega)]
      exact ⟨⟨rfl, rfl, trivial⟩⟩
    · rw [← hR, zfD hx (by omega)]
      exact ⟨⟨rfl, rfl, trivial⟩⟩
  · have hz := r6 he
    subst hz
    refine zaI Tryz.func154 rfl Tryz.ntmps154 Tryz.results154 rfl rfl rfl rfl rfl fun X hL hX => ?_
    repeat' (first |with_reducible (first |refine zag ?_|refine zaa ?_|refine zaf ?_|refine zad ?_|refine zah ?_|refine zae ?_|refine zap ?_)|refine zab rfl rfl True.intro ?_|refine zat rfl rfl rfl ?_|refine zal rfl ?_|((first |refine zac rfl ?_ ?_)<;>intro<;>try (first |contradiction))|((first |refine zab rfl rfl ?_ ?_);focus (first |exact le_ rfl|((repeat' refine And.intro ?_ ?_)<;>omega)))|refine zbT rfl rfl ?_|refine zax (f := 167) 20 200 rfl rfl Tryz.call167 rfl rfl rfl rfl rfl rfl rfl rfl rfl hn ?_|fail)
    rw [← hR, zoQ hx he]
    exact ⟨⟨rfl, rfl, trivial⟩⟩

def tlB (l : List UInt8) (k : Int) (lo hi : Int) : Bool := decide (k < l.length) && decide (lo ≤ at' l k) && decide (at' l k ≤ hi)
def loF (c : Int) : Int := if c = 224 then 160 else if c = 240 then 144 else 128
def hiF (c : Int) : Int := if c = 237 then 159 else if c = 244 then 143 else 191
def oneL (l : List UInt8) : Nat :=
  if at' l 0 < 128 then 1
  else if tlB l 1 (loF (at' l 0)) (hiF (at' l 0)) = false then 0
  else if 194 ≤ at' l 0 ∧ at' l 0 ≤ 223 then 2
  else if 224 ≤ at' l 0 ∧ at' l 0 ≤ 239 ∧ tlB l 2 128 191 = true then 3
  else if 240 ≤ at' l 0 ∧ at' l 0 ≤ 244 ∧ tlB l 2 128 191 = true ∧ tlB l 3 128 191 = true then 4
  else 0
def validN : Nat → List UInt8 → Bool
  | 0, _ => true
  | n + 1, l => if l.length = 0 then true else if oneL l = 0 then false else validN n (l.drop (oneL l))
def validL (l : List UInt8) : Bool := validN l.length l
theorem zju : ∀ (n m : Nat) (l : List UInt8), l.length ≤ n → l.length ≤ m → validN n l = validN m l
  | 0, m, l, h, _ => by
    have : l.length = 0 := by omega
    cases m with
    | zero => rfl
    | succ m => simp [validN, this]
  | n + 1, 0, l, _, h => by
    have : l.length = 0 := by omega
    simp [validN, this]
  | n + 1, m + 1, l, h1, h2 => by
    unfold validN
    by_cases h0 : l.length = 0
    · simp [h0]
    · rw [if_neg h0, if_neg h0]
      by_cases ho : oneL l = 0
      · rw [if_pos ho, if_pos ho]
      · rw [if_neg ho, if_neg ho]
        exact zju n m _ (by rw [List.length_drop]; omega) (by rw [List.length_drop]; omega)
theorem zeU {l : List UInt8} (h : l.length = 0) : validL l = true := by
  unfold validL
  rw [h]
  rfl
theorem zhh {l : List UInt8} (h : ¬ l.length = 0) (ho : oneL l = 0) : validL l = false := by
  unfold validL
  obtain ⟨n, hn⟩ : ∃ n, l.length = n + 1 := ⟨l.length - 1, by omega⟩
  rw [hn]
  unfold validN
  rw [if_neg h, if_pos ho]
theorem zeb {l : List UInt8} (h : ¬ l.length = 0) (ho : ¬ oneL l = 0) : validL l = validL (l.drop (oneL l)) := by
  unfold validL
  obtain ⟨n, hn⟩ : ∃ n, l.length = n + 1 := ⟨l.length - 1, by omega⟩
  rw [hn]
  conv => lhs; unfold validN
  rw [if_neg h, if_neg ho]
  exact zju _ _ _ (by rw [List.length_drop]; omega) (Nat.le_refl _)
theorem zfK (l : List UInt8) (k j : Nat) : at' (l.drop k) j = at' l ((k + j : Nat) : Int) := by
  unfold at'
  simp only [Int.toNat_natCast]
  simp [List.getD_eq_getElem?_getD, List.getElem?_drop]
theorem zbF : ∀ (k : Nat) (l : List UInt8), k ≤ l.length → (∀ j : Nat, j < k → at' l j < 128) → validL (l.drop k) = validL l
  | 0, l, _, _ => by simp
  | k + 1, l, h, ha => by
    have h0 := ha 0 (by omega)
    have ho : oneL l = 1 := by unfold oneL; rw [if_pos (by simpa using h0)]
    rw [zeb (l := l) (by omega) (by omega), ho, ← zbF k (l.drop 1) (by rw [List.length_drop]; omega) (fun j hj => by rw [zfK]; exact ha (1 + j) (by omega)), List.drop_drop, Nat.add_comm 1 k]
def wordV (l : List UInt8) : Int := at' l 0 + 256 * at' l 1 + 65536 * at' l 2 + 16777216 * at' l 3 + 4294967296 * at' l 4 + 1099511627776 * at' l 5 + 281474976710656 * at' l 6 + 72057594037927936 * at' l 7
theorem zbj (n : Int) (h₀ : 0 ≤ n) (h₁ : n < 2 ^ 64) : IntKind.u64.wrap n = n := by rw [zjo]; omega
theorem zhR (k : IntKind) (x y : Int) : bits .or k x y = bits .or k y x := by simp [bits, BitVec.or_comm]
theorem zkI (i : Nat) (x y p : Int) (hx : 0 ≤ x) (hx2 : x < 2 ^ i) (hy : 0 ≤ y) (hy2 : y < 256) (_hi : i + 8 ≤ 64) (hp : p = 2 ^ i) (hp2 : y * p < 18446744073709551616) (hx3 : x < 18446744073709551616) (hp0 : 0 ≤ y * p) : bits .or .u64 x (IntKind.u64.wrap (IntKind.u64.wrap y * p)) = x + y * p := by
  rw [zbj y hy (by omega), zbj _ hp0 hp2, zhR, bits_join .u64 64 (by decide) zbj i _ _ hp0 (by rw [hp, Int.mul_emod_left]) hp2 hx hx2 hx3]
  omega
theorem zqp (l : List UInt8) (h : 8 ≤ l.length) : Ctr Tryz.prog 126 [.s l] (.i .u64 (wordV l)) := by
  have r0 := zaH l 0
  have r1 := zaH l 1
  have r2 := zaH l 2
  have r3 := zaH l 3
  have r4 := zaH l 4
  have r5 := zaH l 5
  have r6 := zaH l 6
  have r7 := zaH l 7
  refine zaE Tryz.func126 rfl Tryz.ntmps126 Tryz.results126 rfl rfl fun X hL hX => ?_
  repeat' (first |with_reducible (first |refine zag ?_|refine zaa ?_|refine zaf ?_|refine zad ?_|refine zaj ?_|refine zah ?_|refine zaB ?_)|refine zab rfl rfl True.intro ?_|refine zal rfl ?_|((first |refine zab rfl rfl ?_ ?_);focus (first |omega|((repeat' refine And.intro ?_ ?_)<;>omega)))|with_reducible refine ⟨by kernel_rfl, ?_⟩|refine zau rfl ?_|fail)
  unfold wordV
  generalize at' l 0 = b0 at *
  generalize at' l 1 = b1 at *
  generalize at' l 2 = b2 at *
  generalize at' l 3 = b3 at *
  generalize at' l 4 = b4 at *
  generalize at' l 5 = b5 at *
  generalize at' l 6 = b6 at *
  generalize at' l 7 = b7 at *
  have p8 : (2 : Int) ^ Int.toNat 8 = 256 := by decide
  have p16 : (2 : Int) ^ Int.toNat 16 = 65536 := by decide
  have p24 : (2 : Int) ^ Int.toNat 24 = 16777216 := by decide
  have p32 : (2 : Int) ^ Int.toNat 32 = 4294967296 := by decide
  have p40 : (2 : Int) ^ Int.toNat 40 = 1099511627776 := by decide
  have p48 : (2 : Int) ^ Int.toNat 48 = 281474976710656 := by decide
  have p56 : (2 : Int) ^ Int.toNat 56 = 72057594037927936 := by decide
  rw [p8, p16, p24, p32, p40, p48, p56, zbj b0 r0.1 (by omega)]
  rw [zkI 8 b0 b1 256 (by omega) (by omega) r1.1 r1.2 (by omega) (by decide) (by omega) (by omega) (by omega)]
  rw [zkI 16 _ b2 65536 (by omega) (by omega) r2.1 r2.2 (by omega) (by decide) (by omega) (by omega) (by omega)]
  rw [zkI 24 _ b3 16777216 (by omega) (by omega) r3.1 r3.2 (by omega) (by decide) (by omega) (by omega) (by omega)]
  rw [zkI 32 _ b4 4294967296 (by omega) (by omega) r4.1 r4.2 (by omega) (by decide) (by omega) (by omega) (by omega)]
  rw [zkI 40 _ b5 1099511627776 (by omega) (by omega) r5.1 r5.2 (by omega) (by decide) (by omega) (by omega) (by omega)]
  rw [zkI 48 _ b6 281474976710656 (by omega) (by omega) r6.1 r6.2 (by omega) (by decide) (by omega) (by omega) (by omega)]
  rw [zkI 56 _ b7 72057594037927936 (by omega) (by omega) r7.1 r7.2 (by omega) (by decide) (by omega) (by omega) (by omega)]
  exact congrArg (D.i .u64) (by omega)
theorem zsU (w : Nat) (h : bits .and .u64 (w : Int) 9259542123273814144 = 0) (hw : w < 18446744073709551616) : w / 128 % 2 = 0 ∧ w / 32768 % 2 = 0 ∧ w / 8388608 % 2 = 0 ∧ w / 2147483648 % 2 = 0 ∧ w / 549755813888 % 2 = 0 ∧ w / 140737488355328 % 2 = 0 ∧ w / 36028797018963968 % 2 = 0 ∧ w / 9223372036854775808 % 2 = 0 := by
  have h1 := (bits_nat .u64 64 (by decide) zbj w 9259542123273814144 hw (by decide)).1
  have h2 : w &&& 9259542123273814144 = 0 := by
    have : ((9259542123273814144 : Nat) : Int) = 9259542123273814144 := rfl
    rw [this, h] at h1
    omega
  have key : ∀ i, (9259542123273814144 : Nat).testBit i = true → w / 2 ^ i % 2 = 0 := fun i hi => by
    have h3 : (w &&& 9259542123273814144).testBit i = false := by rw [h2]; exact Nat.zero_testBit i
    rw [Nat.testBit_and, hi, Bool.and_true, Nat.testBit_eq_decide_div_mod_eq] at h3
    have := of_decide_eq_false h3
    omega
  exact ⟨key 7 (by decide), key 15 (by decide), key 23 (by decide), key 31 (by decide), key 39 (by decide), key 47 (by decide), key 55 (by decide), key 63 (by decide)⟩
theorem zbt (l : List UInt8) : 0 ≤ wordV l ∧ wordV l < 18446744073709551616 := by
  have r0 := zaH l 0
  have r1 := zaH l 1
  have r2 := zaH l 2
  have r3 := zaH l 3
  have r4 := zaH l 4
  have r5 := zaH l 5
  have r6 := zaH l 6
  have r7 := zaH l 7
  unfold wordV
  omega
theorem zcr (l : List UInt8) (h : bits .and .u64 (wordV l) 9259542123273814144 = 0) : ∀ j : Nat, j < 8 → at' l j < 128 := by
  have hr := zbt l
  obtain ⟨w, hw⟩ : ∃ w : Nat, wordV l = w := ⟨(wordV l).toNat, by omega⟩
  rw [hw] at h
  obtain ⟨k0, k1, k2, k3, k4, k5, k6, k7⟩ := zsU w h (by omega)
  have r0 := zaH l 0
  have r1 := zaH l 1
  have r2 := zaH l 2
  have r3 := zaH l 3
  have r4 := zaH l 4
  have r5 := zaH l 5
  have r6 := zaH l 6
  have r7 := zaH l 7
  unfold wordV at hw
  intro j hj
  have hj : j = 0 ∨ j = 1 ∨ j = 2 ∨ j = 3 ∨ j = 4 ∨ j = 5 ∨ j = 6 ∨ j = 7 := by omega
  rcases hj with rfl | rfl | rfl | rfl | rfl | rfl | rfl | rfl
  · show at' l 0 < 128; clear k1 k2 k3 k4 k5 k6 k7; omega
  · show at' l 1 < 128; clear k0 k2 k3 k4 k5 k6 k7; omega
  · show at' l 2 < 128; clear k1 k0 k3 k4 k5 k6 k7; omega
  · show at' l 3 < 128; clear k1 k2 k0 k4 k5 k6 k7; omega
  · show at' l 4 < 128; clear k1 k2 k3 k0 k5 k6 k7; omega
  · show at' l 5 < 128; clear k1 k2 k3 k4 k0 k6 k7; omega
  · show at' l 6 < 128; clear k1 k2 k3 k4 k5 k0 k7; omega
  · show at' l 7 < 128; clear k1 k2 k3 k4 k5 k6 k0; omega
theorem zlJ (a b : Int) (ha : 0 ≤ a) (ha2 : a < 18446744073709551616) (hb : 0 ≤ b) (hb2 : b < 18446744073709551616) (h : bits .and .u64 (bits .or .u64 a b) 9259542123273814144 = 0) : bits .and .u64 a 9259542123273814144 = 0 ∧ bits .and .u64 b 9259542123273814144 = 0 := by
  obtain ⟨x, rfl⟩ := Int.eq_ofNat_of_zero_le ha
  obtain ⟨y, rfl⟩ := Int.eq_ofNat_of_zero_le hb
  have hx : x < 2 ^ 64 := by omega
  have hy : y < 2 ^ 64 := by omega
  have hM : (9259542123273814144 : Nat) < 2 ^ 64 := by decide
  have c : ((9259542123273814144 : Nat) : Int) = 9259542123273814144 := rfl
  rw [(bits_nat .u64 64 (by decide) zbj x y hx hy).2, ← c, (bits_nat .u64 64 (by decide) zbj (x ||| y) 9259542123273814144 (Nat.or_lt_two_pow hx hy) hM).1, Nat.and_or_distrib_right] at h
  rw [← c, (bits_nat .u64 64 (by decide) zbj x 9259542123273814144 hx hM).1, (bits_nat .u64 64 (by decide) zbj y 9259542123273814144 hy hM).1]
  have h2 : x &&& 9259542123273814144 ||| y &&& 9259542123273814144 = 0 := by omega
  rw [Nat.or_eq_zero_iff] at h2
  rw [h2.1, h2.2]
  exact ⟨rfl, rfl⟩
theorem zkX (a b : Int) (ha : 0 ≤ a) (ha2 : a < 18446744073709551616) (hb : 0 ≤ b) (hb2 : b < 18446744073709551616) : 0 ≤ bits .or .u64 a b ∧ bits .or .u64 a b < 18446744073709551616 := by
  obtain ⟨x, rfl⟩ := Int.eq_ofNat_of_zero_le ha
  obtain ⟨y, rfl⟩ := Int.eq_ofNat_of_zero_le hb
  have hx : x < 2 ^ 64 := by omega
  have hy : y < 2 ^ 64 := by omega
  rw [(bits_nat .u64 64 (by decide) zbj x y hx hy).2]
  have := Nat.or_lt_two_pow hx hy
  omega

theorem zcg (l l' : List UInt8) (e : l = l') (h : 8 ≤ l'.length) : Ctr Tryz.prog 126 [.s l] (.i .u64 (wordV l')) := by
  subst e
  exact zqp l h
theorem zbA (l : List UInt8) (k : Nat) (n : Int) (hn : n = k) : ((l.take ((l.length : Int)).toNat).drop n.toNat) = l.drop k := by
  subst hn
  rw [Int.toNat_natCast, Int.toNat_natCast, List.take_length]
theorem sizes (c : Int) (h0 : 128 ≤ c) (h1 : c < 256) :
    (c < 194 ∨ 244 < c) ∧ firstZ c.toNat = 241 ∨ (194 ≤ c ∧ c ≤ 223) ∧ firstZ c.toNat = 2 ∨ c = 224 ∧ firstZ c.toNat = 19 ∨ (225 ≤ c ∧ c ≤ 236 ∨ 238 ≤ c ∧ c ≤ 239) ∧ firstZ c.toNat = 3 ∨ c = 237 ∧ firstZ c.toNat = 35 ∨
      c = 240 ∧ firstZ c.toNat = 52 ∨ (241 ≤ c ∧ c ≤ 243) ∧ firstZ c.toNat = 4 ∨ c = 244 ∧ firstZ c.toNat = 68 := by
  obtain ⟨n, rfl⟩ := Int.eq_ofNat_of_zero_le (show 0 ≤ c by omega)
  rw [Int.toNat_natCast]
  have h : n < 194 ∨ (194 ≤ n ∧ n < 224) ∨ n = 224 ∨ (225 ≤ n ∧ n < 237) ∨ n = 237 ∨ (238 ≤ n ∧ n < 240) ∨ n = 240 ∨ (241 ≤ n ∧ n < 244) ∨ n = 244 ∨ 245 ≤ n := by omega
  rcases h with h | h | h | h | h | h | h | h | h | h
  · have e : firstZ n = 241 := by unfold firstZ; rw [if_neg (by omega), if_pos (by omega)]
    omega
  · have e : firstZ n = 2 := by unfold firstZ; rw [if_neg (by omega), if_neg (by omega), if_pos (by omega)]
    omega
  · have e : firstZ n = 19 := by unfold firstZ; rw [if_neg (by omega), if_neg (by omega), if_neg (by omega), if_pos (by omega)]
    omega
  · have e : firstZ n = 3 := by unfold firstZ; rw [if_neg (by omega), if_neg (by omega), if_neg (by omega), if_neg (by omega), if_pos (by omega)]
    omega
  · have e : firstZ n = 35 := by unfold firstZ; rw [if_neg (by omega), if_neg (by omega), if_neg (by omega), if_neg (by omega), if_neg (by omega), if_pos (by omega)]
    omega
  · have e : firstZ n = 3 := by unfold firstZ; rw [if_neg (by omega), if_neg (by omega), if_neg (by omega), if_neg (by omega), if_neg (by omega), if_neg (by omega), if_pos (by omega)]
    omega
  · have e : firstZ n = 52 := by unfold firstZ; rw [if_neg (by omega), if_neg (by omega), if_neg (by omega), if_neg (by omega), if_neg (by omega), if_neg (by omega), if_neg (by omega), if_pos (by omega)]
    omega
  · have e : firstZ n = 4 := by unfold firstZ; rw [if_neg (by omega), if_neg (by omega), if_neg (by omega), if_neg (by omega), if_neg (by omega), if_neg (by omega), if_neg (by omega), if_neg (by omega), if_pos (by omega)]
    omega
  · have e : firstZ n = 68 := by unfold firstZ; rw [if_neg (by omega), if_neg (by omega), if_neg (by omega), if_neg (by omega), if_neg (by omega), if_neg (by omega), if_neg (by omega), if_neg (by omega), if_neg (by omega), if_pos (by omega)]
    omega
  · have e : firstZ n = 241 := by unfold firstZ; rw [if_neg (by omega), if_neg (by omega), if_neg (by omega), if_neg (by omega), if_neg (by omega), if_neg (by omega), if_neg (by omega), if_neg (by omega), if_neg (by omega), if_neg (by omega)]
    omega
theorem zfR {l : List UInt8} (h : ¬ at' l 0 < 128) : oneL l = if 1 < (l.length : Int) ∧ loF (at' l 0) ≤ at' l 1 ∧ at' l 1 ≤ hiF (at' l 0) then
      (if 194 ≤ at' l 0 ∧ at' l 0 ≤ 223 then 2 else if 224 ≤ at' l 0 ∧ at' l 0 ≤ 239 ∧ 2 < (l.length : Int) ∧ 128 ≤ at' l 2 ∧ at' l 2 ≤ 191 then 3
      else if 240 ≤ at' l 0 ∧ at' l 0 ≤ 244 ∧ 2 < (l.length : Int) ∧ 128 ≤ at' l 2 ∧ at' l 2 ≤ 191 ∧ 3 < (l.length : Int) ∧ 128 ≤ at' l 3 ∧ at' l 3 ≤ 191 then 4 else 0) else 0 := by
  have ht : ∀ (k lo hi : Int), tlB l k lo hi = true ↔ k < l.length ∧ lo ≤ at' l k ∧ at' l k ≤ hi := fun k lo hi => by
    unfold tlB
    simp [and_assoc]
  unfold oneL
  rw [if_neg h]
  by_cases h1 : tlB l 1 (loF (at' l 0)) (hiF (at' l 0)) = true
  · rw [if_neg (by rw [h1]; decide), if_pos ((ht _ _ _).1 h1)]
    simp only [ht, and_assoc]
  · rw [if_pos (by simpa using h1), if_neg (fun h2 => h1 ((ht _ _ _).2 h2))]
set_option maxRecDepth 20000 in
set_option maxHeartbeats 2000000 in
theorem zmf (l0 : List UInt8) (_hl0 : l0.length ≤ 1099511627776) : Ctr Tryz.prog 101 [.s l0] (.b (validL l0)) := by
  refine zaE Tryz.func101 rfl Tryz.ntmps101 Tryz.results101 rfl rfl fun X hL hX => ?_
  repeat' (first |with_reducible (first |refine zag ?_|refine zaa ?_|refine zaf ?_|refine zad ?_|refine zae ?_)|refine zab rfl rfl True.intro ?_|fail)
  refine T.loop hL (fun l : List UInt8 => [(0, .s l)]) (fun _ => []) (fun l => l.length ≤ l0.length ∧ validL l = validL l0) (fun l => l.length) l0
    ⟨Nat.le_refl _, rfl⟩ ⟨⟨rfl, trivial⟩, trivial, rfl, by rw [hX]; intro k hk; cases hk⟩ ?_
  rintro l ⟨g1, g2⟩
  have hr := zaH l 0
  by_cases hlen : l.length = 0
  · have hv := zeU hlen
    repeat' (first |with_reducible (first |refine zag ?_|refine zaa ?_|refine zaf ?_|refine zad ?_|refine zaj ?_|refine zaA ?_|refine zaz ?_)|refine zab rfl rfl True.intro ?_|((first |refine zac rfl ?_ ?_)<;>intro<;>try (first |(exfalso;omega)))|refine zaO rfl ?_|refine zau rfl ?_|fail)
    rw [← g2, hv]
  by_cases hasc : at' l 0 < 128
  · have hv1 : validL (l.drop 1) = validL l := zbF 1 l (by omega) fun j hj => by rw [show j = 0 by omega]; exact hasc
    have hl1 : (l.drop 1).length = l.length - 1 := List.length_drop
    have e1 := zbA l 1 1 rfl
    generalize l.drop 1 = l1 at hv1 hl1 e1
    rw [g2] at hv1
    have hv9 : 8 ≤ l1.length → bits .and .u64 (wordV l1) 9259542123273814144 = 0 → validL (l1.drop 8) = validL l0 := fun h1 h2 => by rw [zbF 8 l1 h1 (zcr l1 h2), hv1]
    have hl9 : (l1.drop 8).length = l1.length - 8 := List.length_drop
    have e9 := zbA l1 8 8 rfl
    generalize l1.drop 8 = l9 at hv9 hl9 e9
    have hv25 : validL l9 = validL l0 → 16 ≤ l9.length → bits .and .u64 (bits .or .u64 (wordV l9) (wordV (l9.drop 8))) 9259542123273814144 = 0 → validL (l9.drop 16) = validL l0 := fun h0 h1 h2 => by
      have w1 := zbt l9
      have w2 := zbt (l9.drop 8)
      obtain ⟨a1, a2⟩ := zlJ _ _ w1.1 w1.2 w2.1 w2.2 h2
      rw [zbF 16 l9 h1 (fun j hj => ?_), h0]
      by_cases h8 : j < 8
      · exact zcr l9 a1 j h8
      · have := zcr _ a2 (j - 8) (by omega)
        rw [zfK, show 8 + (j - 8) = j by omega] at this
        exact this
    have hl25 : (l9.drop 16).length = l9.length - 16 := List.length_drop
    have f8 := zbA l9 8 8 rfl
    have hf8 : (l9.drop 8).length = l9.length - 8 := List.length_drop
    have e25 := zbA l9 16 16 rfl
    generalize l9.drop 16 = l25 at hv25 hl25 e25
    generalize l9.drop 8 = l17 at hv25 f8 hf8
    have leaf : ∀ (m : List UInt8) (fr : Fr) (ow : Ow), m.length < l.length → validL m = validL l0 → leFr fr [(0, .s m)] →
        ∃ y : List UInt8, (y.length ≤ l0.length ∧ validL y = validL l0) ∧ y.length < l.length ∧ Le X fr ow [(0, .s y)] [] := fun m fr ow h1 h2 h3 =>
      ⟨m, ⟨by omega, h2⟩, h1, h3, trivial, rfl, by rw [hX]; intro k hk; cases hk⟩
    repeat' (first |refine T.weakF 0 (.s l1) (.of_eq (congrArg D.s e1)) ?_|refine T.weakF 0 (.s l9) (.of_eq (congrArg D.s e9)) ?_|refine T.weakF 0 (.s l25) (.of_eq (congrArg D.s e25)) ?_|with_reducible (first |refine zag ?_|refine zaa ?_|refine zaf ?_|refine zad ?_|refine zah ?_|refine zaA ?_|refine zae ?_|refine zaz ?_|refine zaB ?_)|refine zab rfl rfl True.intro ?_|refine zat rfl rfl rfl ?_|refine zak rfl rfl rfl rfl True.intro ?_|refine zal rfl ?_|((first |refine zac rfl ?_ ?_|refine zan rfl rfl ?_ ?_)<;>intro<;>try (first |(exfalso;omega)))|((first |refine zab rfl rfl ?_ ?_|refine zak rfl rfl rfl rfl ?_ ?_);focus (first |omega|((repeat' refine And.intro ?_ ?_)<;>omega)))|refine zaO rfl ?_|with_reducible refine ⟨by kernel_rfl, ?_⟩|refine zaK (f := 126) rfl rfl rfl rfl Tryz.call126 rfl (zcg _ l1 rfl (by omega)) ?_|refine zaK (f := 126) rfl rfl rfl rfl Tryz.call126 rfl (zcg _ l9 rfl (by omega)) ?_|refine zaK (f := 126) rfl rfl rfl rfl Tryz.call126 rfl (zcg _ l17 f8 (by omega)) ?_|fail)
    · have hv9 := hv9 (by omega) ‹_›
      have hv25 := hv25 hv9 (by omega) ‹_›
      refine T.loop hL (fun m : List UInt8 => [(0, .s m)]) (fun _ => []) (fun m => m.length < l.length ∧ validL m = validL l0) (fun m => m.length) l25
        ⟨by omega, hv25⟩ ⟨⟨rfl, trivial⟩, trivial, rfl, by rw [hX]; intro k hk; cases hk⟩ ?_
      clear hv9 hv25 hl25 e25 hf8 f8 hl9 e9 hv1 hl1 e1
      rintro m ⟨q1, q2⟩
      have f8 := zbA m 8 8 rfl
      have f16 := zbA m 16 16 rfl
      have f24 := zbA m 24 24 rfl
      have f32 := zbA m 32 32 rfl
      have h8 : (m.drop 8).length = m.length - 8 := List.length_drop
      have h16 : (m.drop 16).length = m.length - 16 := List.length_drop
      have h24 : (m.drop 24).length = m.length - 24 := List.length_drop
      have h32 : (m.drop 32).length = m.length - 32 := List.length_drop
      have hv32 : 32 ≤ m.length → bits .and .u64 (bits .or .u64 (bits .or .u64 (wordV m) (wordV (m.drop 8))) (bits .or .u64 (wordV (m.drop 16)) (wordV (m.drop 24)))) 9259542123273814144 = 0 → validL (m.drop 32) = validL l0 := fun h1 h2 => by
        have w0 := zbt m
        have w1 := zbt (m.drop 8)
        have w2 := zbt (m.drop 16)
        have w3 := zbt (m.drop 24)
        have o1 := zkX _ _ w0.1 w0.2 w1.1 w1.2
        have o2 := zkX _ _ w2.1 w2.2 w3.1 w3.2
        obtain ⟨a1, a2⟩ := zlJ _ _ o1.1 o1.2 o2.1 o2.2 h2
        obtain ⟨b0, b1⟩ := zlJ _ _ w0.1 w0.2 w1.1 w1.2 a1
        obtain ⟨b2, b3⟩ := zlJ _ _ w2.1 w2.2 w3.1 w3.2 a2
        rw [zbF 32 m h1 (fun j hj => ?_), q2]
        have part : ∀ k : Nat, bits .and .u64 (wordV (m.drop k)) 9259542123273814144 = 0 → k ≤ j → j < k + 8 → at' m j < 128 := fun k hk g1 g2 => by
          have := zcr _ hk (j - k) (by omega)
          rw [zfK, show k + (j - k) = j by omega] at this
          exact this
        by_cases c1 : j < 8
        · exact zcr m b0 j c1
        · by_cases c2 : j < 16
          · exact part 8 b1 (by omega) (by omega)
          · by_cases c3 : j < 24
            · exact part 16 b2 (by omega) (by omega)
            · exact part 24 b3 (by omega) (by omega)
      generalize m.drop 8 = m8 at *
      generalize m.drop 16 = m16 at *
      generalize m.drop 24 = m24 at *
      generalize m.drop 32 = m32 at *
      repeat' (first |with_reducible (first |refine zag ?_|refine zaa ?_|refine zaf ?_|refine zad ?_|refine zah ?_|refine zaA ?_|refine zae ?_|refine zap ?_|refine zaz ?_|refine zaB ?_)|refine zab rfl rfl True.intro ?_|refine zat rfl rfl rfl ?_|refine zak rfl rfl rfl rfl True.intro ?_|refine zal rfl ?_|((first |refine zac rfl ?_ ?_|refine zan rfl rfl ?_ ?_)<;>intro)|((first |refine zab rfl rfl ?_ ?_|refine zak rfl rfl rfl rfl ?_ ?_);focus (first |omega|((repeat' refine And.intro ?_ ?_)<;>omega)))|refine zaO rfl ?_|with_reducible refine ⟨by kernel_rfl, ?_⟩|refine zaK (f := 126) rfl rfl rfl rfl Tryz.call126 rfl (zcg _ m rfl (by omega)) ?_|refine zaK (f := 126) rfl rfl rfl rfl Tryz.call126 rfl (zcg _ m8 f8 (by omega)) ?_|refine zaK (f := 126) rfl rfl rfl rfl Tryz.call126 rfl (zcg _ m16 f16 (by omega)) ?_|refine zaK (f := 126) rfl rfl rfl rfl Tryz.call126 rfl (zcg _ m24 f24 (by omega)) ?_|fail)
      · exact ⟨m32, ⟨by omega, hv32 (by omega) ‹_›⟩, by omega, ⟨congrArg D.s f32, trivial⟩, trivial, rfl, by rw [hX]; intro k hk; cases hk⟩
      · exact leaf m _ _ q1 q2 ⟨rfl, trivial⟩
      · exact leaf m _ _ q1 q2 ⟨rfl, trivial⟩
    · exact leaf l9 _ _ (by omega) (hv9 (by omega) ‹_›) ⟨rfl, trivial⟩
    · exact leaf l9 _ _ (by omega) (hv9 (by omega) ‹_›) ⟨rfl, trivial⟩
    · exact leaf l1 _ _ (by omega) hv1 ⟨rfl, trivial⟩
    · exact leaf l1 _ _ (by omega) hv1 ⟨rfl, trivial⟩
  · have hsz := sizes (at' l 0) (by omega) hr.2
    have hF0 : 0 + (at' l 0).toNat * 1 = (at' l 0).toNat := by omega
    rw [← hF0] at hsz
    have hS : IntKind.i64.wrap (bits .and .u8 (firstZ (0 + (at' l 0).toNat * 1)) 7) = firstZ (0 + (at' l 0).toNat * 1) % 8 := by
      have := bits_mask .u8 8 (by decide) wraps_u8 3 (by decide) (firstZ (0 + (at' l 0).toNat * 1)) (by omega) (by omega)
      rw [show (7 : Int) = 2 ^ 3 - 1 by decide, this, wi6_]
      omega
    have e4 : (2 : Int) ^ Int.toNat 4 = 16 := by decide
    have hA : firstZ (0 + (at' l 0).toNat * 1) / 2 ^ Int.toNat 4 = firstZ (0 + (at' l 0).toNat * 1) / 16 := by rw [e4]
    have hlh : (at' l 0 < 194 ∨ 244 < at' l 0) ∨ (accZ (0 + (firstZ (0 + (at' l 0).toNat * 1) / 2 ^ Int.toNat 4).toNat * 2) = loF (at' l 0) ∧ accZ (0 + (firstZ (0 + (at' l 0).toNat * 1) / 2 ^ Int.toNat 4).toNat * 2 + 1) = hiF (at' l 0)) := by
      rcases hsz with ⟨h, _⟩ | ⟨h, hF⟩ | ⟨h, hF⟩ | ⟨h, hF⟩ | ⟨h, hF⟩ | ⟨h, hF⟩ | ⟨h, hF⟩ | ⟨h, hF⟩
      · exact .inl h
      all_goals
        right
        rw [hF]
        unfold loF hiF
        refine ⟨?_, ?_⟩ <;> (repeat' split) <;> first | rfl | (exfalso; omega)
    have f2 := zbA l 2 2 rfl
    have f3 := zbA l 3 3 rfl
    have f4 := zbA l 4 4 rfl
    have good : ∀ k : Nat, oneL l = k → 2 ≤ k → k ≤ l.length → ∀ (fr : Fr) (ow : Ow), leFr fr [(0, .s (l.drop k))] →
        ∃ y : List UInt8, (y.length ≤ l0.length ∧ validL y = validL l0) ∧ y.length < l.length ∧ Le X fr ow [(0, .s y)] [] := fun k h1 h2 h3 fr ow h4 => by
      have hlen2 : (l.drop k).length = l.length - k := List.length_drop
      refine ⟨l.drop k, ⟨by omega, ?_⟩, by omega, h4, trivial, rfl, by rw [hX]; intro k hk; cases hk⟩
      rw [← g2, zeb hlen (by omega), h1]
    repeat' (first |with_reducible (first |refine zag ?_|refine zaa ?_|refine zaf ?_|refine zad ?_|refine zaj ?_|refine zah ?_|refine zae ?_|refine zap ?_|refine zam ?_|refine zar ?_|refine zaB ?_)|refine zab rfl rfl True.intro ?_|refine zat rfl rfl rfl ?_|refine zak rfl rfl rfl rfl True.intro ?_|refine zav rfl ?_|((first |refine zac rfl ?_ ?_|refine zan rfl rfl ?_ ?_)<;>intro<;>try (first |(exfalso;omega)))|((first |refine zab rfl rfl ?_ ?_|refine zak rfl rfl rfl rfl ?_ ?_|refine zao rfl rfl ?_ ?_|refine zaw rfl ?_ ?_);focus (first |(rw [hA];omega)|omega|exact le_ rfl|((repeat' refine And.intro ?_ ?_)<;>omega)|((repeat' refine And.intro ?_ ?_)<;>first |rfl|exact Nat.le_refl _)))|with_reducible refine ⟨by kernel_rfl, ?_⟩|refine zau rfl ?_|fail)
    all_goals
      first
        | (rw [← g2, zhh hlen (by rw [zfR hasc]; (repeat' split) <;> omega)]; done)
        | exact good 2 (by rw [zfR hasc]; (repeat' split) <;> omega) (by omega) (by omega) _ _ ⟨congrArg D.s f2, trivial⟩
        | exact good 3 (by rw [zfR hasc]; (repeat' split) <;> omega) (by omega) (by omega) _ _ ⟨congrArg D.s f3, trivial⟩
        | exact good 4 (by rw [zfR hasc]; (repeat' split) <;> omega) (by omega) (by omega) _ _ ⟨congrArg D.s f4, trivial⟩

theorem zdd (s : List UInt8) (hs : s.length ≤ 1099511627776) : Ctr Tryz.prog 69 [.s s] (.b (validL s)) := by
  have c := zmf s hs
  refine zaE Tryz.func69 rfl Tryz.ntmps69 Tryz.results69 rfl rfl fun X hL hX => ?_
  repeat' (first |with_reducible (first |refine zag ?_|refine zaa ?_|refine zaf ?_|refine zad ?_|refine zaj ?_)|refine zab rfl rfl True.intro ?_|refine zau rfl ?_|refine zai (f := 101) rfl rfl Tryz.call101 rfl c ?_|fail)
  rfl
theorem zii (s : List UInt8) (i lo hi : Int) (h0 : 0 ≤ i) : Ctr Tryz.prog 153 [.s s, .i .i64 i, .i .i64 lo, .i .i64 hi] (.b (tlB s i lo hi)) := by
  have hr := zaH s i
  have e : IntKind.i64.wrap (at' s i) = at' s i := by rw [wi6_]; omega
  have ht : tlB s i lo hi = true ↔ i < s.length ∧ lo ≤ at' s i ∧ at' s i ≤ hi := by
    unfold tlB
    simp [and_assoc]
  generalize tlB s i lo hi = b at ht
  refine zaE Tryz.func153 rfl Tryz.ntmps153 Tryz.results153 rfl rfl fun X hL hX => ?_
  repeat' (first |with_reducible (first |refine zag ?_|refine zaa ?_|refine zaf ?_|refine zad ?_|refine zaj ?_)|refine zab rfl rfl True.intro ?_|refine zat rfl rfl rfl ?_|refine zak rfl rfl rfl rfl True.intro ?_|((first |refine zan rfl rfl ?_ ?_)<;>intro)|((first |refine zak rfl rfl rfl rfl ?_ ?_);focus (first |omega|((repeat' refine And.intro ?_ ?_)<;>omega)))|refine zau rfl ?_|fail)
  all_goals
    rw [e] at *
    congr 1
    rw [Bool.eq_iff_iff, ht]
    simp
    omega
theorem zie (s : List UInt8) (i : Nat) (k lo hi : Int) (hk : 0 ≤ k) (hi' : i ≤ s.length) : tlB s (i + k) lo hi = tlB (s.drop i) k lo hi := by
  obtain ⟨n, rfl⟩ := Int.eq_ofNat_of_zero_le hk
  unfold tlB
  rw [zfK, List.length_drop, show ((i : Int) + (n : Nat)) = ((i + n : Nat) : Int) by omega]
  congr 2
  rw [Bool.eq_iff_iff]
  simp
  omega
set_option maxHeartbeats 1000000 in
theorem zsh (s : List UInt8) (i : Nat) (h : i < s.length) (hs : s.length ≤ 1099511627776) : Ctr Tryz.prog 128 [.s s, .i .i64 i] (.i .i64 (oneL (s.drop i))) := by
  have hr := zaH s i
  have e0 := zfK s i 0
  rw [Nat.add_zero, show ((0 : Nat) : Int) = 0 from rfl] at e0
  have e : IntKind.i64.wrap (at' s i) = at' (s.drop i) 0 := by rw [wi6_, e0]; omega
  have t1 := zie s i 1 (loF (at' (s.drop i) 0)) (hiF (at' (s.drop i) 0)) (by omega) (by omega)
  have t2 := zie s i 2 128 191 (by omega) (by omega)
  have t3 := zie s i 3 128 191 (by omega) (by omega)
  have d1 := zii s (i + 1) (loF (at' (s.drop i) 0)) (hiF (at' (s.drop i) 0)) (by omega)
  have d2 := zii s (i + 2) 128 191 (by omega)
  have d3 := zii s (i + 3) 128 191 (by omega)
  rw [t1] at d1
  rw [t2] at d2
  rw [t3] at d3
  rw [← e0] at hr
  unfold oneL
  unfold loF hiF at *
  generalize at' (s.drop i) 0 = c at *
  clear t1 t2 t3 e0
  generalize tlB (s.drop i) 2 128 191 = b2 at *
  generalize tlB (s.drop i) 3 128 191 = b3 at *
  generalize hb1 : tlB (s.drop i) 1 (if c = 224 then 160 else if c = 240 then 144 else 128) (if c = 237 then 159 else if c = 244 then 143 else 191) = b1 at *
  clear hb1
  refine zaE Tryz.func128 rfl Tryz.ntmps128 Tryz.results128 rfl rfl fun X hL hX => ?_
  repeat' (first |with_reducible (first |refine zag ?_|refine zaa ?_|refine zaf ?_|refine zad ?_|refine zaj ?_|refine zah ?_|refine zam ?_)|refine zab rfl rfl True.intro ?_|refine zat rfl rfl rfl ?_|refine zak rfl rfl rfl rfl True.intro ?_|refine zal rfl ?_|((first |refine zac rfl ?_ ?_|refine zbr rfl ?_ ?_|refine zrI rfl ?_ ?_|refine zan rfl rfl ?_ ?_)<;>intro<;>try (first |(exfalso;omega)))|((first |refine zab rfl rfl ?_ ?_|refine zak rfl rfl rfl rfl ?_ ?_);focus (first |omega|((repeat' refine And.intro ?_ ?_)<;>omega)))|refine zau rfl ?_|refine zai (f := 153) rfl rfl Tryz.call153 rfl (by first |(repeat (first |rw [if_pos (by omega)] at d1|rw [if_neg (by omega)] at d1));exact d1) ?_|refine zaK (f := 153) rfl rfl rfl rfl Tryz.call153 rfl d2 ?_|refine zaK (f := 153) rfl rfl rfl rfl Tryz.call153 rfl d3 ?_|((with_reducible refine c_grd ?_);(fail_if_success (refine ztm true rfl rfl rfl ?_));(fail_if_success (refine ztm false rfl rfl rfl ?_));refine zsR rfl rfl (fun _ => ?_) (fun _ => ?_))|fail)
  all_goals
    clear d1 d2 d3
    generalize IntKind.i64.wrap (at' s i) = w at *
    subst e
    refine congrArg (D.i .i64) ?_
    (repeat' split) <;> first | rfl | (exfalso; omega) | (exfalso; simp_all; done) | (exfalso; simp_all; omega)
theorem zgT (s : List UInt8) (hs : s.length ≤ 1099511627776) : Ctr Tryz.prog 104 [.s s] (.b (validL s)) := by
  refine zaE Tryz.func104 rfl Tryz.ntmps104 Tryz.results104 rfl rfl fun X hL hX => ?_
  repeat' (first |with_reducible (first |refine zag ?_|refine zaa ?_|refine zaf ?_|refine zad ?_|refine zae ?_)|refine zab rfl rfl True.intro ?_|fail)
  refine T.loop hL (fun i : Nat => [(0, .s s), (3, .i .i64 i)]) (fun _ => []) (fun i => i ≤ s.length ∧ validL (s.drop i) = validL s) (fun i => s.length - i) 0
    ⟨Nat.zero_le _, rfl⟩ ⟨⟨rfl, rfl, trivial⟩, trivial, rfl, by rw [hX]; intro k hk; cases hk⟩ ?_
  rintro i ⟨g1, g2⟩
  replace g2 := fun _ : Unit => g2
  have hd : (s.drop i).length = s.length - i := List.length_drop
  by_cases hi : i < s.length
  · have c := zsh s i hi hs
    have hle : oneL (s.drop i) ≤ (s.drop i).length := by
      by_cases hasc : at' (s.drop i) 0 < 128
      · unfold oneL
        rw [if_pos hasc]
        omega
      · rw [zfR hasc]
        (repeat' split) <;> omega
    by_cases ho : oneL (s.drop i) = 0
    · have hv := fun _ : Unit => zhh (l := s.drop i) (by omega) ho
      rw [ho] at c
      repeat' (first |with_reducible (first |refine zag ?_|refine zaa ?_|refine zaf ?_|refine zad ?_|refine zaj ?_|refine zah ?_|refine zae ?_|refine zam ?_|refine zar ?_)|refine zab rfl rfl True.intro ?_|refine zav rfl ?_|((first |refine zac rfl ?_ ?_)<;>intro<;>try (first |(exfalso;omega)))|refine zau rfl ?_|refine zai (f := 128) rfl rfl Tryz.call128 rfl c ?_|fail)
      rw [← g2 (), hv ()]
    · have hv := fun _ : Unit => zeb (l := s.drop i) (by omega) ho
      simp only [List.drop_drop] at hv
      generalize oneL (s.drop i) = k at *
      repeat' (first |with_reducible (first |refine zag ?_|refine zaa ?_|refine zaf ?_|refine zad ?_|refine zah ?_|refine zae ?_|refine zap ?_)|refine zab rfl rfl True.intro ?_|((first |refine zac rfl ?_ ?_)<;>intro<;>try (first |(exfalso;omega)))|((first |refine zab rfl rfl ?_ ?_);focus (first |omega|((repeat' refine And.intro ?_ ?_)<;>omega)))|refine zai (f := 128) rfl rfl Tryz.call128 rfl c ?_|fail)
      exact ⟨i + k, ⟨by omega, by rw [← g2 (), hv ()]⟩, by omega, ⟨rfl, rfl, trivial⟩, trivial, rfl, by rw [hX]; intro k hk; cases hk⟩
  · have hv := fun _ : Unit => zeU (l := s.drop i) (by omega)
    repeat' (first |with_reducible (first |refine zag ?_|refine zaa ?_|refine zaf ?_|refine zad ?_|refine zaj ?_|refine zaA ?_|refine zaz ?_)|refine zab rfl rfl True.intro ?_|((first |refine zac rfl ?_ ?_)<;>intro<;>try (first |(exfalso;omega)))|refine zaO rfl ?_|refine zau rfl ?_|fail)
    rw [← g2 (), hv ()]
theorem zsK (c i : Int) (h0 : 0 ≤ i) (h1 : i < 16) (h : c = (if i < 10 then 48 + i else 87 + i) ∨ c = (if i < 10 then 48 + i else 55 + i)) : hexF c = i := by
  unfold hexF
  split at h <;> (repeat' split) <;> omega
theorem hexS : ∀ i : Nat, i < 16 → at' ({ data := #[48, 49, 50, 51, 52, 53, 54, 55, 56, 57, 97, 98, 99, 100, 101, 102] } : ByteArray).data.toList i = (if (i : Int) < 10 then 48 + (i : Int) else 87 + i) := by decide

def escV (c : Int) : Int := if c = 98 then 8 else if c = 102 then 12 else if c = 110 then 10 else if c = 114 then 13 else if c = 116 then 9 else c
def escE (c : Int) : Int := if c = 98 ∨ c = 102 ∨ c = 110 ∨ c = 114 ∨ c = 116 ∨ c = 34 ∨ c = 92 ∨ c = 47 then 0 else 3
def escP (s : List UInt8) (i : Int) (o : List UInt8) : Int × List UInt8 × Int :=
  if i < s.length then (if at' s i = 117 then codeP s (i + 1) o else (i + 1, o ++ [by8 (escV (at' s i))], escE (at' s i))) else (i, o ++ [0], 2)
theorem zhD {s : List UInt8} {i : Int} {o : List UInt8} {e e' c c' : Int} {ow : Ow} {g : Nat → List D} (hc : c = c') (h0 : 0 ≤ c') (h1 : c' < 256) (he : e = e') (hg : g 0 = [.i .u8 c])
    (h20 : look 20 ow = some (.var [.s s, .i .i64 i, .gs 200 1 (o.length + 1) (catF o.length (bytesF o) 1 g), .i .i64 e])) (h200 : look 200 ow = some (.row 5 1 (o.length + 1))) : leOw ow (rdl s i (o ++ [by8 c']) e') := by
  subst hc
  subst he
  refine ⟨?_, ?_, trivial⟩
  · rw [h20, zsu 200 o (by8 c) g (by rw [hg, zcJ c h0 h1])]
    rfl
  · rw [h200]
    simp
theorem zrW (s : List UInt8) (i : Int) (o : List UInt8) (hs : s.length ≤ 1099511627776) (h0 : 0 ≤ i) (h1 : i ≤ s.length) (ho : o.length ≤ 1099511627776) :
    CtrO Tryz.prog 132 [.pv 20 0] (rdl s i o 0) (.tu []) (rdl s (escP s i o).1 (escP s i o).2.1 (escP s i o).2.2) := by
  have hn := zdv s i o 0 hs h0 h1
  unfold escP
  by_cases hi : i < s.length
  · rw [zdw rfl hi] at hn
    dsimp only at hn
    rw [if_pos hi]
    have hr := zaH s i
    have hcode := zqo s (i + 1) o hs (by omega) (by omega) ho
    have hf := zcl s (i + 1) o 0 3
    by_cases hc : at' s i = 117
    · rw [if_pos hc]
      generalize codeP s (i + 1) o = R at *
      rw [hc] at hn
      refine zaI Tryz.func132 rfl Tryz.ntmps132 Tryz.results132 rfl rfl rfl rfl rfl fun X hL hX => ?_
      repeat' (first |with_reducible (first |refine zag ?_|refine zaa ?_|refine zaf ?_|refine zad ?_|refine zaj ?_|refine zae ?_|refine zam ?_|refine zar ?_)|refine zab rfl rfl True.intro ?_|refine zav rfl ?_|refine zbb rfl rfl ?_|refine zax (f := 131) 20 200 rfl rfl Tryz.call131 rfl rfl rfl rfl rfl rfl rfl rfl rfl hn ?_|refine zax (f := 154) 20 200 rfl rfl Tryz.call154 rfl rfl rfl rfl rfl rfl rfl rfl rfl hcode ?_|fail)
      exact ⟨⟨rfl, rfl, trivial⟩⟩
    · rw [if_neg hc]
      clear hcode
      refine zaI Tryz.func132 rfl Tryz.ntmps132 Tryz.results132 rfl rfl rfl rfl rfl fun X hL hX => ?_
      repeat' (first |with_reducible (first |refine zag ?_|refine zaa ?_|refine zaf ?_|refine zad ?_|refine zah ?_|refine zae ?_|refine zap ?_)|refine zab rfl rfl True.intro ?_|((first |refine zac rfl ?_ ?_)<;>intro<;>try (first |(exfalso;omega)))|((first |refine zab rfl rfl ?_ ?_|refine zao rfl rfl ?_ ?_|refine zaw rfl ?_ ?_);focus (first |exact le_ rfl|((repeat' refine And.intro ?_ ?_)<;>omega)|((repeat' refine And.intro ?_ ?_)<;>first |omega|rfl|exact le_ rfl)))|refine zbT rfl rfl ?_|refine zax (f := 131) 20 200 rfl rfl Tryz.call131 rfl rfl rfl rfl rfl rfl rfl rfl rfl hn ?_|refine zax (f := 133) 20 200 rfl rfl Tryz.call133 rfl rfl rfl rfl rfl rfl rfl rfl rfl hf ?_|fail)
      all_goals
        unfold escV escE
        refine ⟨zhD (by (repeat' split) <;> omega) (by (repeat' split) <;> omega) (by (repeat' split) <;> omega) (by simp only [failF, if_true]; (repeat' split) <;> first | rfl | (exfalso; omega)) rfl rfl rfl⟩
  · rw [zcc rfl hi] at hn
    dsimp only at hn
    rw [if_neg hi]
    have hf := zcl s i o 2 3
    refine zaI Tryz.func132 rfl Tryz.ntmps132 Tryz.results132 rfl rfl rfl rfl rfl fun X hL hX => ?_
    repeat' (first |with_reducible (first |refine zag ?_|refine zaa ?_|refine zaf ?_|refine zad ?_|refine zae ?_|refine zap ?_)|refine zab rfl rfl True.intro ?_|refine zal rfl ?_|((first |refine zab rfl rfl ?_ ?_|refine zao rfl rfl ?_ ?_|refine zaw rfl ?_ ?_);focus (first |exact le_ rfl|((repeat' refine And.intro ?_ ?_)<;>omega)|((repeat' refine And.intro ?_ ?_)<;>first |omega|rfl|exact le_ rfl)))|refine zbT rfl rfl ?_|refine zax (f := 131) 20 200 rfl rfl Tryz.call131 rfl rfl rfl rfl rfl rfl rfl rfl rfl hn ?_|refine zax (f := 133) 20 200 rfl rfl Tryz.call133 rfl rfl rfl rfl rfl rfl rfl rfl rfl hf ?_|fail)
    exact ⟨zhD (c' := 0) rfl (by omega) (by omega) rfl rfl rfl rfl⟩
end Go.Proofs.YtcajofhafpkbdaaGreatDoor.Flow
