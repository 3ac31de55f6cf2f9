/- The texts D14, T1, D7, D4, D5, D8, one behind the other. -/
import Derived.Test.YtkkaamhocpmhkaaGreatDoorJJ12
import Derived.Test.YtkkaamhocpmhkaaGreatDoorJJ13
import Derived.Lib.Bytealg
namespace Go.Proofs.YtkkaamhocpmhkaaGreatDoor.Flow
open Go
def numA (a : Nat) (l : List UInt8) : Nat := l.foldl (fun n c => 10 * n + (c.toNat - 48)) a
def numL (l : List UInt8) : Nat := numA 0 l
theorem zoZ (a : Nat) : numA a [] = a := rfl
theorem zeP (a : Nat) (c : UInt8) (l : List UInt8) : numA a (c :: l) = numA (10 * a + (c.toNat - 48)) l := by
  unfold numA
  rw [List.foldl_cons]
theorem zpc (a : Nat) (l m : List UInt8) : numA a (l ++ m) = numA (numA a l) m := by simp [numA]
theorem zrf (l : List UInt8) : ∀ a : Nat, numA a l = a * 10 ^ l.length + numL l := by
  induction l with
  | nil =>
    intro a
    simp [zoZ, numL]
  | cons c l ih =>
    intro a
    have h1 := zeP a c l
    have h2 : numL (c :: l) = numA (10 * 0 + (c.toNat - 48)) l := zeP 0 c l
    rw [h1, h2, ih, ih (10 * 0 + (c.toNat - 48)), List.length_cons, Nat.pow_succ]
    generalize 10 ^ l.length = t
    generalize c.toNat - 48 = d
    have h3 : 10 * a * t = a * (t * 10) := by rw [Nat.mul_comm 10 a, Nat.mul_assoc, Nat.mul_comm 10 t]
    rw [Nat.add_mul, h3, Nat.mul_zero, Nat.zero_add]
    omega
theorem zmQ (c : UInt8) (l : List UInt8) : numL (c :: l) = (c.toNat - 48) * 10 ^ l.length + numL l := by
  have : numL (c :: l) = numA (10 * 0 + (c.toNat - 48)) l := zeP 0 c l
  rw [this, zrf]
  simp
theorem znY (l : List UInt8) (c : UInt8) : numL (l ++ [c]) = 10 * numL l + (c.toNat - 48) := by
  unfold numL
  rw [zpc]
  rfl
theorem zqk {c : UInt8} (h : isD c = true) : 48 ≤ c.toNat ∧ c.toNat ≤ 57 := by
  have := zby.1 h
  omega
theorem zmW : ∀ (l : List UInt8), (∀ c ∈ l, isD c = true) → numL l < 10 ^ l.length
  | [], _ => by decide
  | c :: l, h => by
    have h1 := zqk (h c (by simp))
    have h2 := zmW l fun c hc => h c (by simp [hc])
    rw [zmQ, List.length_cons, Nat.pow_succ]
    have h3 : (c.toNat - 48) * 10 ^ l.length ≤ 9 * 10 ^ l.length := Nat.mul_le_mul_right _ (by omega)
    omega
theorem zex {k : Nat} (h : ¬ k < 10) : Lib.decDigits k = Lib.decDigits (k / 10) ++ [UInt8.ofNat (48 + k % 10)] := by rw [Lib.decDigits, dif_neg h]
theorem zbW {k : Nat} (h : k < 10) : Lib.decDigits k = [UInt8.ofNat (48 + k)] := by rw [Lib.decDigits, dif_pos h]
theorem zql {n : Nat} (h : n < 10) : isD (UInt8.ofNat (48 + n)) = true ∧ (UInt8.ofNat (48 + n)).toNat = 48 + n := by
  have : (UInt8.ofNat (48 + n)).toNat = 48 + n := by simp; omega
  exact ⟨zby.2 (by omega), this⟩
theorem zrj (k : Nat) (h : ¬ k = 0) : ∃ c l, Lib.decDigits k = c :: l ∧ ¬ c = 48 := by
  induction k using Nat.strongRecOn with
  | ind k ih =>
    by_cases h2 : k < 10
    · refine ⟨_, [], zbW h2, fun h3 => ?_⟩
      have := congrArg UInt8.toNat h3
      rw [(zql h2).2] at this
      have : (48 : UInt8).toNat = 48 := rfl
      omega
    · obtain ⟨c, l, h3, h4⟩ := ih (k / 10) (by omega) (by omega)
      exact ⟨c, l ++ [UInt8.ofNat (48 + k % 10)], by rw [zex h2, h3]; rfl, h4⟩
theorem zfv (k n : Nat) (h : k < 10 ^ n) (hn : 1 ≤ n) : (Lib.decDigits k).length ≤ n := by
  induction n generalizing k with
  | zero => omega
  | succ n ih =>
    by_cases h2 : k < 10
    · rw [zbW h2]
      simp
    · rw [zex h2, List.length_append, List.length_singleton]
      rw [Nat.pow_succ] at h
      by_cases hz : n = 0
      · subst hz
        omega
      · have := ih (k / 10) (by omega) (by omega)
        omega
def dig0 (k : Nat) : List UInt8 := if k = 0 then [] else Lib.decDigits k
theorem znV {k : Nat} (h : ¬ k = 0) : dig0 k = dig0 (k / 10) ++ [UInt8.ofNat (48 + k % 10)] := by
  unfold dig0
  rw [if_neg h]
  by_cases h2 : k < 10
  · rw [zbW h2, if_pos (by omega), show k % 10 = k by omega]
    rfl
  · rw [zex h2, if_neg (by omega)]
theorem zna (neg : Bool) (e : Int) : normF neg [] e = ((false, [], 0), 0) := rfl
theorem zhy (neg : Bool) (e : Int) : normF neg [48] e = ((false, [], 0), 0) := by
  unfold normF
  rw [if_pos (by decide)]
theorem zmq (neg : Bool) (k : Nat) (e : Int) : normF neg (dig0 k) e = normF neg (Lib.decDigits k) e := by
  unfold dig0
  split
  · rename_i h
    subst h
    rw [zna, show Lib.decDigits 0 = [48] from zbW (by omega), zhy]
  · rfl

theorem zow (s : List UInt8) : s = tR s ++ zs (s.length - (tR s).length) := by
  have key : ∀ (n : Nat) (s : List UInt8), s.length = n → s = tR s ++ zs (s.length - (tR s).length) := by
    intro n
    induction n with
    | zero =>
      intro s h
      obtain rfl := List.length_eq_zero_iff.1 h
      rfl
    | succ n ih =>
      intro s h
      rcases zbk s with rfl | ⟨r, c, rfl⟩
      · simp at h
      · by_cases hc : c = 48
        · subst hc
          rw [zdQ]
          have h1 := ih r (by simpa using h)
          have h2 := zjl r
          rw [List.length_append, List.length_singleton, show r.length + 1 - (tR r).length = (r.length - (tR r).length) + 1 by omega]
          unfold zs at h1 ⊢
          rw [List.replicate_succ', ← List.append_assoc, ← h1]
        · rw [zdT r c hc]
          simp
  exact key _ s rfl
theorem zrH {s : List UInt8} {c : UInt8} (h : c ∈ tR s) : c ∈ s := by
  rw [zow s]
  exact List.mem_append_left _ h
theorem zmT (s : List UInt8) : lastOk (tR s) := by
  have key : ∀ (n : Nat) (s : List UInt8), s.length = n → lastOk (tR s) := by
    intro n
    induction n with
    | zero =>
      intro s h
      obtain rfl := List.length_eq_zero_iff.1 h
      intro c r e
      have : tR [] = [] := rfl
      rw [this] at e
      simp at e
    | succ n ih =>
      intro s h
      rcases zbk s with rfl | ⟨r, c, rfl⟩
      · simp at h
      · by_cases hc : c = 48
        · subst hc
          rw [zdQ]
          exact ih r (by simpa using h)
        · rw [zdT r c hc]
          intro d q e
          have := congrArg List.getLast? e
          simp at this
          rw [← this]
          exact hc
  exact key _ s rfl
theorem zrw {c : UInt8} {l : List UInt8} (h : ¬ c = 48) : tL (c :: l) = c :: l := by
  unfold tL Lib.trimLeftB
  rw [List.dropWhile_cons]
  simp [h]
def ofF (n e : Int) : Bool × List UInt8 × Int := if e < -2000 ∨ 2000 < e then (false, [], 0) else (normF (decide (n < 0)) (Lib.decDigits n.natAbs) e).1
theorem zpd (e : Int) : ofF 0 e = (false, [], 0) := by
  unfold ofF
  split
  · rfl
  · show (normF false (Lib.decDigits 0) e).1 = _
    rw [show Lib.decDigits 0 = [48] from zbW (by omega), zhy]
theorem znx (n e : Int) (h0 : -9223372036854775808 ≤ n) (h1 : n ≤ 9223372036854775807) : (ofF n e).2.1.length ≤ 1000 := by
  have h := zfv n.natAbs 19 (by omega) (by omega)
  have h2 := zjl (Lib.decDigits n.natAbs)
  have h3 := zma (tR (Lib.decDigits n.natAbs))
  unfold ofF normF
  repeat' split
  all_goals first | decide | (dsimp only; omega)
def intF (neg : Bool) (s : List UInt8) (e : Int) : Int × Bool :=
  if ¬ RightP neg s e ∨ e < 0 ∨ 19 < s.length + e then (0, false)
  else if 4611686018427387904 < numL (s ++ zs e.toNat) then (0, false)
  else if neg = true then (-(numL (s ++ zs e.toNat) : Int), true) else ((numL (s ++ zs e.toNat) : Int), true)

theorem zrG (s : List UInt8) (n j : Nat) : pad (s ++ zs n) j = pad s j := by
  unfold pad
  by_cases h : j < s.length
  · rw [if_pos h, if_pos (by simp; omega)]
    unfold at'
    simp only [Int.toNat_natCast, List.getD_eq_getElem?_getD]
    rw [List.getElem?_append_left h]
  · rw [if_neg h]
    split
    · rename_i h2
      unfold at'
      simp only [Int.toNat_natCast, List.getD_eq_getElem?_getD]
      rw [List.getElem?_append_right (by omega)]
      simp only [List.length_append, List.length_replicate] at h2
      unfold zs
      rw [List.getElem?_replicate, if_pos (by omega)]
      rfl
    · rfl

def hvG : Nat → Nat → Int → Nat × Int
  | 0, m, e => (m, e)
  | k + 1, m, e => if e < 0 ∧ m % 2 = 0 ∧ 0 < m then hvG k (m / 2) (e + 1) else (m, e)
theorem zjB : ∀ (k k' m : Nat) (e : Int), m ≤ k → m ≤ k' → hvG k m e = hvG k' m e
  | 0, 0, m, e, _, _ => rfl
  | 0, k' + 1, m, e, h, _ => by
    unfold hvG
    rw [if_neg (by omega)]
  | k + 1, 0, m, e, _, h => by
    unfold hvG
    rw [if_neg (by omega)]
  | k + 1, k' + 1, m, e, h, h' => by
    unfold hvG
    split
    · exact zjB k k' (m / 2) (e + 1) (by omega) (by omega)
    · rfl
def hv (m : Nat) (e : Int) : Nat × Int := hvG m m e
theorem zci {m : Nat} {e : Int} (h : ¬ (e < 0 ∧ m % 2 = 0 ∧ 0 < m)) : hv m e = (m, e) := by
  unfold hv
  cases m with
  | zero => rfl
  | succ m =>
    unfold hvG
    rw [if_neg h]
theorem zhm {m : Nat} {e : Int} (h : e < 0 ∧ m % 2 = 0 ∧ 0 < m) : hv m e = hv (m / 2) (e + 1) := by
  unfold hv
  cases m with
  | zero => omega
  | succ m =>
    conv => lhs; unfold hvG
    rw [if_pos h]
    exact zjB _ _ _ _ (by omega) (Nat.le_refl _)
def whF (r : Nat × Int) : Option Nat :=
  if r.1 = 0 then some 0 else if r.2 < 0 then none else if 9007199254740992 < r.1 * 2 ^ r.2.toNat then none else some (r.1 * 2 ^ r.2.toNat)
def wholeF (b : Nat) : Option Int :=
  if xP b = 2047 then none
  else match whF (hv (mB (b % 9223372036854775808)) (eB (b % 9223372036854775808))) with
    | none => none
    | some n => some (if 9223372036854775808 ≤ b then -(n : Int) else n)
theorem zps {r : Nat × Int} {n : Nat} (h : whF r = some n) : n ≤ 9007199254740992 := by
  unfold whF at h
  repeat' split at h
  all_goals first | (cases h; done) | (have := Option.some.inj h; omega)
theorem ziw {b : Nat} {n : Int} (h : wholeF b = some n) : -9007199254740992 ≤ n ∧ n ≤ 9007199254740992 := by
  unfold wholeF at h
  split at h
  · cases h
  · split at h
    · cases h
    · rename_i k hk
      have := zps hk
      have h := Option.some.inj h
      split at h <;> omega
def wText : Option Int → List UInt8 × Bool
  | none => ([], false)
  | some n => (textF (ofF n 0).1 (ofF n 0).2.1 (ofF n 0).2.2, true)

theorem zdc (s : List UInt8) (i : Nat) (hs : s.length ≤ 1048576) (hi : i ≤ s.length) : Ctr Tryz.prog 133 [.s s, .i .i64 i] (.i .i64 ((i + (dgT s i).length : Nat) : Int)) := by
  refine zax Tryz.func133 rfl Tryz.ntmps133 Tryz.results133 rfl rfl fun X hL hX => ?_
  repeat' (first |with_reducible (first |refine zah ?_|refine zaa ?_|refine zag ?_|refine zad ?_|refine zaf ?_)|refine zab rfl rfl True.intro ?_|fail)
  refine T.loop hL (fun k : Nat => [(0, .s s), (1, .i .i64 k)]) (fun _ => []) (fun k => i ≤ k ∧ k ≤ s.length ∧ k + (dgT s k).length = i + (dgT s i).length) (fun k => s.length - k) i ⟨Nat.le_refl _, hi, rfl⟩
    ⟨⟨rfl, rfl, trivial⟩, trivial, rfl, by rw [hX]; intro k hk; cases hk⟩ ?_
  rintro k ⟨g1, g2, g3⟩
  have c1 := zhJ (at' s k)
  have g3 := fun _ : Unit => g3
  by_cases hk : k < s.length
  · by_cases hd : 48 ≤ at' s k ∧ at' s k ≤ 57
    · rw [decide_eq_true hd] at c1
      have h2 := fun _ : Unit => zhi hk hd
      clear hd
      repeat' (first |with_reducible (first |refine zah ?_|refine zaa ?_|refine zag ?_|refine zad ?_|refine zai ?_|refine zaf ?_|refine zao ?_)|refine zab rfl rfl True.intro ?_|refine zaj rfl rfl rfl rfl True.intro ?_|refine zau rfl ?_|((first |refine zak rfl rfl ?_ ?_)<;>intro<;>try (first |(exfalso;omega)))|((first |refine zab rfl rfl ?_ ?_|refine zaj rfl rfl rfl rfl ?_ ?_);focus (first |omega|((repeat' refine And.intro ?_ ?_)<;>omega)))|refine zaw (f := 188) rfl rfl rfl rfl Tryz.call188 rfl c1 ?_|fail)
      exact ⟨k + 1, ⟨by omega, by omega, by rw [← g3 (), h2 (), List.length_cons]; omega⟩, by omega, ⟨rfl, rfl, trivial⟩, trivial, rfl, by rw [hX]; intro k hk; cases hk⟩
    · rw [decide_eq_false hd] at c1
      have h2 := fun _ : Unit => zgp (s := s) (i := k) (.inr hd)
      clear hd
      repeat' (first |with_reducible (first |refine zah ?_|refine zaa ?_|refine zag ?_|refine zad ?_|refine zan ?_|refine zat ?_|refine zas ?_)|refine zab rfl rfl True.intro ?_|refine zaj rfl rfl rfl rfl True.intro ?_|refine zal rfl ?_|((first |refine zak rfl rfl ?_ ?_)<;>intro<;>try (first |(exfalso;omega)))|((first |refine zaj rfl rfl rfl rfl ?_ ?_);focus (first |omega|((repeat' refine And.intro ?_ ?_)<;>omega)))|refine zaB rfl ?_|refine zaq rfl ?_|refine zaw (f := 188) rfl rfl rfl rfl Tryz.call188 rfl c1 ?_|fail)
      rw [← g3 (), h2 ()]
      rfl
  · have h2 := fun _ : Unit => zgp (s := s) (i := k) (.inl hk)
    repeat' (first |with_reducible (first |refine zah ?_|refine zaa ?_|refine zag ?_|refine zad ?_|refine zan ?_|refine zat ?_|refine zas ?_)|refine zab rfl rfl True.intro ?_|refine zap rfl rfl rfl ?_|refine zal rfl ?_|((first |refine zak rfl rfl ?_ ?_)<;>intro<;>try (first |(exfalso;omega)))|refine zaB rfl ?_|refine zaq rfl ?_|fail)
    rw [← g3 (), h2 ()]
    rfl
set_option maxHeartbeats 1000000 in
theorem zim (neg : Bool) (s : List UInt8) (e : Int) (hs : s.length ≤ 1099511627776) (h1 : -4611686018427387904 ≤ e) (h2 : e ≤ 4611686018427387904) :
    Ctr Tryz.prog 134 [.b neg, .s s, .i .i64 e] (.tu [dcV (normF neg s e).1, .i .i64 (normF neg s e).2]) := by
  generalize hR : normF neg s e = R
  unfold normF at hR
  replace hR := fun _ : Unit => hR.symm
  refine zax Tryz.func134 rfl Tryz.ntmps134 Tryz.results134 rfl rfl fun X hL hX => ?_
  repeat' (first |with_reducible (first |refine zah ?_|refine zaa ?_|refine zag ?_|refine zad ?_|refine zaf ?_)|refine zab rfl rfl True.intro ?_|((first |refine zav rfl rfl ?_ ?_);focus (first |((repeat' refine And.intro ?_ ?_)<;>omega)|((repeat' refine And.intro ?_ ?_)<;>first |rfl)))|fail)
  refine T.loop hL (fun y : List UInt8 => [(0, .b neg), (1, .s y), (2, .i .i64 (e + (s.length - y.length))), (6, .pv 6 0)]) (fun _ => [(6, .var [.b false, .s [], .i .i64 0])]) (fun y => tR y = tR s ∧ y.length ≤ s.length) (fun y => y.length) s ⟨rfl, Nat.le_refl _⟩
    ⟨⟨rfl, rfl, by show D.i .i64 e = _; rw [Int.sub_self, Int.add_zero], rfl, trivial⟩, ⟨rfl, trivial⟩, rfl, by rw [hX]; intro k hk; cases hk⟩ ?_
  rintro y ⟨g1, g2⟩
  by_cases hy : y.length = 0 ∨ ¬ at' y (y.length - 1) = 48
  · have hst : y = tR s := by rw [← g1, zqf y hy]
    have hst := fun _ : Unit => hst
    clear g1
    have hm := fun _ : Unit => hst ()
    have hle : y.length ≤ s.length := g2
    have key : Unit → (tR s).length = y.length := fun _ => by rw [← hst ()]
    repeat' (first |with_reducible (first |refine zah ?_|refine zaa ?_|refine zag ?_|refine zad ?_|refine zat ?_|refine zaf ?_|refine zas ?_)|refine zab rfl rfl True.intro ?_|refine zap rfl rfl rfl ?_|refine zaj rfl rfl rfl rfl True.intro ?_|refine zal rfl ?_|((first |refine zac rfl ?_ ?_|refine zak rfl rfl ?_ ?_)<;>intro<;>try (first |(exfalso;omega)))|((first |refine zaj rfl rfl rfl rfl ?_ ?_);focus (first |omega|((repeat' refine And.intro ?_ ?_)<;>omega)))|refine zaB rfl ?_|fail)
    all_goals
      refine T.loop hL (fun z : List UInt8 => [(0, .b neg), (1, .s z), (2, .i .i64 (e + (s.length - y.length))), (6, .pv 6 0)]) (fun _ => [(6, .var [.b false, .s [], .i .i64 0])]) (fun z => tL z = tL y ∧ z.length ≤ y.length) (fun z => z.length) y ⟨rfl, Nat.le_refl _⟩
        ⟨⟨rfl, rfl, rfl, rfl, trivial⟩, ⟨rfl, trivial⟩, rfl, by rw [hX]; intro k hk; cases hk⟩ ?_
      rintro z ⟨q1, q2⟩
      by_cases hz : z.length = 0 ∨ ¬ at' z 0 = 48
      · have hz2 : z = tL y := by rw [← q1, zqn z hz]
        have hR2 : Unit → R = if z.length = 0 then ((false, [], 0), 0) else if 100 < z.length then ((false, [], 0), 5) else if e + (s.length - y.length) < -1000 ∨ 1000 < e + (s.length - y.length) then ((false, [], 0), 8) else ((neg, z, e + (s.length - y.length)), 0) := fun _ => by rw [hR (), ← hst (), ← hz2]
        clear q1 hz2 hR hst hm key
        repeat' (first |with_reducible (first |refine zah ?_|refine zaa ?_|refine zag ?_|refine zad ?_|refine zan ?_|refine zai ?_|refine zat ?_|refine zas ?_|refine zam ?_)|refine zab rfl rfl True.intro ?_|refine zap rfl rfl rfl ?_|refine zaj rfl rfl rfl rfl True.intro ?_|refine zau rfl ?_|refine zal rfl ?_|((first |refine zac rfl ?_ ?_|refine zak rfl rfl ?_ ?_)<;>intro<;>try (first |(exfalso;omega)))|((first |refine zaj rfl rfl rfl rfl ?_ ?_|refine zaH rfl ?_ ?_);focus (first |omega|((repeat' refine And.intro ?_ ?_)<;>omega)|((repeat' refine And.intro ?_ ?_)<;>first |rfl|exact Nat.le_refl _)))|refine zaB rfl ?_|refine zaq rfl ?_|fail)
        all_goals first
          | (rw [hR2 (), if_pos (by omega)]; rfl)
          | (rw [hR2 (), if_neg (by omega), if_pos (by omega)]; rfl)
          | (rw [hR2 (), if_neg (by omega), if_neg (by omega), if_pos (by omega)]; rfl)
          | (rw [hR2 (), if_neg (by omega), if_neg (by omega), if_neg (by omega)]; rfl)
          | (exfalso; omega)
      · have hst2 := fun _ : Unit => zqy z (by omega) (by omega)
        have q1 := fun _ : Unit => q1
        have hz1 : ¬ z.length = 0 := by omega
        have hz2 : at' z 0 = 48 := by omega
        clear hR hst hm key
        repeat' (first |with_reducible (first |refine zah ?_|refine zaa ?_|refine zag ?_|refine zad ?_|refine zai ?_|refine zaf ?_|refine zao ?_)|refine zab rfl rfl True.intro ?_|refine zaj rfl rfl rfl rfl True.intro ?_|((first |refine zac rfl ?_ ?_|refine zak rfl rfl ?_ ?_)<;>intro<;>try (first |contradiction|(exfalso;omega)))|((first |refine zab rfl rfl ?_ ?_|refine zaj rfl rfl rfl rfl ?_ ?_);focus (first |omega|((repeat' refine And.intro ?_ ?_)<;>omega)))|fail)
        all_goals refine ⟨z.drop 1, ⟨(hst2 ()).trans (q1 ()), by simp; omega⟩, by simp only [List.length_drop]; omega, ⟨rfl, ?_, rfl, rfl, trivial⟩, ⟨rfl, trivial⟩, rfl, by rw [hX]; intro k hk; cases hk⟩
        all_goals exact congrArg D.s (by rw [Int.toNat_natCast, List.take_length]; rfl)
  · have hst := fun _ : Unit => zqT y (by omega) (by omega)
    have g1 := fun _ : Unit => g1
    have hy1 : ¬ y.length = 0 := by omega
    have hy2 : at' y (y.length - 1) = 48 := by omega
    repeat' (first |with_reducible (first |refine zah ?_|refine zaa ?_|refine zag ?_|refine zad ?_|refine zai ?_|refine zaf ?_|refine zao ?_)|refine zab rfl rfl True.intro ?_|refine zaj rfl rfl rfl rfl True.intro ?_|((first |refine zac rfl ?_ ?_|refine zak rfl rfl ?_ ?_)<;>intro<;>try (first |contradiction|(exfalso;omega)))|((first |refine zab rfl rfl ?_ ?_|refine zaj rfl rfl rfl rfl ?_ ?_);focus (first |omega|((repeat' refine And.intro ?_ ?_)<;>omega)))|fail)
    refine ⟨y.take (y.length - 1), ⟨(hst ()).trans (g1 ()), by simp; omega⟩, by simp; omega, ⟨rfl, ?_, ?_, rfl, trivial⟩, ⟨rfl, trivial⟩, rfl, by rw [hX]; intro k hk; cases hk⟩
    · exact congrArg D.s (by rw [show ((y.length : Int) - 1).toNat = y.length - 1 by omega]; rfl)
    · exact congrArg (D.i .i64) (by rw [List.length_take]; omega)

abbrev pO (s : List UInt8) (i : Int) : Ow := [(5, .var [.i .i64 i]), (1, .var [.s s])]
abbrev pF : D := .fn 122 [.pv 5 0, .pv 1 0]
abbrev pO3 (s : List UInt8) (i : Int) : Ow := [(5, .var [.i .i64 i]), (6, .var [pF]), (1, .var [.s s])]
theorem znl (set : List UInt8) (p : Int → Prop) [DecidablePred p] (hp : ∀ c : Int, 0 ≤ c → c < 256 → (0 ≤ Lib.indexByte set c.toNat.toUInt8 ↔ p c)) (s : List UInt8) (i : Nat) (_hs : s.length ≤ 1048576) (hi : i ≤ s.length) :
    CtrO Tryz.prog 122 [.s set, .pv 5 0, .pv 1 0] (pO s i) (.b (decide (i < s.length ∧ p (at' s i)))) (pO s i) := by
  have hr := zaD s i
  have h1 := hp (at' s i) hr.1 hr.2
  have c1 := zgv set (at' s i)
  generalize Lib.indexByte set (at' s i).toNat.toUInt8 = z at h1 c1
  refine zlL Tryz.func122 rfl Tryz.ntmps122 Tryz.results122 rfl rfl rfl rfl rfl fun X hL hX => ?_
  repeat' (first |with_reducible (first |refine zah ?_|refine zaa ?_|refine zag ?_|refine zad ?_|refine zan ?_)|refine zab rfl rfl True.intro ?_|refine zap rfl rfl rfl ?_|refine zaj rfl rfl rfl rfl True.intro ?_|((first |refine zak rfl rfl ?_ ?_)<;>intro)|((first |refine zab rfl rfl ?_ ?_|refine zaj rfl rfl rfl rfl ?_ ?_);focus (first |omega|exact le_ rfl|((repeat' refine And.intro ?_ ?_)<;>omega)))|refine zpt rfl ?_ ?_|refine zaw (f := 123) rfl rfl rfl rfl Tryz.call123 rfl c1 ?_|fail)
  · exact congrArg D.b (decide_eq_decide.2 ⟨fun h => ⟨by omega, h1.1 h⟩, fun h => h1.2 h.2⟩)
  · exact ⟨⟨rfl, rfl, trivial⟩⟩
  · rw [decide_eq_false (fun h => ‹¬ (i : Int) < s.length› (by omega))]
  · exact ⟨⟨rfl, rfl, trivial⟩⟩
theorem zeW (a : UInt8) (c : Int) (h0 : 0 ≤ c) (h1 : c < 256) : 0 ≤ Lib.indexByte [a] c.toNat.toUInt8 ↔ c = (a.toNat : Int) := by
  have e : (a == c.toNat.toUInt8) = decide (c = (a.toNat : Int)) := by
    rw [Bool.eq_iff_iff, beq_iff_eq, decide_eq_true_iff]
    constructor
    · rintro rfl
      have : c.toNat < 256 := by omega
      simp [Nat.toUInt8]
      omega
    · rintro rfl
      simp [Nat.toUInt8]
  unfold Lib.indexByte
  rw [e]
  by_cases h : c = (a.toNat : Int)
  · simp [h]
  · simp [h, Lib.indexByte]
theorem zaW (a : UInt8) (l : List UInt8) (c : Int) (h0 : 0 ≤ c) (h1 : c < 256) : 0 ≤ Lib.indexByte (a :: l) c.toNat.toUInt8 ↔ c = (a.toNat : Int) ∨ 0 ≤ Lib.indexByte l c.toNat.toUInt8 := by
  have e : (a == c.toNat.toUInt8) = decide (c = (a.toNat : Int)) := by
    rw [Bool.eq_iff_iff, beq_iff_eq, decide_eq_true_iff]
    constructor
    · rintro rfl
      have : c.toNat < 256 := by omega
      simp [Nat.toUInt8]
      omega
    · rintro rfl
      simp [Nat.toUInt8]
  have hg := Lib.indexByte_ge l c.toNat.toUInt8
  conv => lhs; unfold Lib.indexByte
  rw [e]
  generalize Lib.indexByte l c.toNat.toUInt8 = z at *
  by_cases h : c = (a.toNat : Int)
  · simp [h]
  · by_cases hz : z = -1
    · simp [h, hz]
    · simp [h, hz]
      omega
theorem zkG : ∀ c : Int, 0 ≤ c → c < 256 → (0 ≤ Lib.indexByte ({ data := #[48, 49, 50, 51, 52, 53, 54, 55, 56, 57] } : ByteArray).data.toList c.toNat.toUInt8 ↔ 48 ≤ c ∧ c ≤ 57) := fun c h0 h1 => by
  show 0 ≤ Lib.indexByte [48, 49, 50, 51, 52, 53, 54, 55, 56, 57] c.toNat.toUInt8 ↔ _
  rw [zaW _ _ _ h0 h1, zaW _ _ _ h0 h1, zaW _ _ _ h0 h1, zaW _ _ _ h0 h1, zaW _ _ _ h0 h1, zaW _ _ _ h0 h1, zaW _ _ _ h0 h1, zaW _ _ _ h0 h1, zaW _ _ _ h0 h1, zeW _ _ h0 h1]
  simp
  omega
theorem set_1 (a : UInt8) : ∀ c : Int, 0 ≤ c → c < 256 → (0 ≤ Lib.indexByte [a] c.toNat.toUInt8 ↔ c = (a.toNat : Int)) := fun c h0 h1 => zeW a c h0 h1
theorem set_2 (a b : UInt8) : ∀ c : Int, 0 ≤ c → c < 256 → (0 ≤ Lib.indexByte [a, b] c.toNat.toUInt8 ↔ c = (a.toNat : Int) ∨ c = (b.toNat : Int)) := fun c h0 h1 => by rw [zaW _ _ _ h0 h1, zeW _ _ h0 h1]

theorem zcH (s : List UInt8) (i : Nat) (hs : s.length ≤ 1048576) (hi : i ≤ s.length) :
    CtrO Tryz.prog 124 [.pv 5 0, .pv 6 0, .pv 1 0] (pO3 s i) (.s (dgT s i)) (pO3 s ((i + (dgT s i).length : Nat) : Int)) := by
  refine zlL Tryz.func124 rfl Tryz.ntmps124 Tryz.results124 rfl rfl rfl rfl rfl fun X hL hX => ?_
  repeat' (first |with_reducible (first |refine zah ?_|refine zaa ?_|refine zag ?_|refine zad ?_|refine zaf ?_)|refine zab rfl rfl True.intro ?_|((first |refine zab rfl rfl ?_ ?_);focus (first |exact le_ rfl|((repeat' refine And.intro ?_ ?_)<;>omega)))|fail)
  refine T.loop hL (fun k : Nat => [(0, .pv 5 0), (1, .pv 6 0), (2, .pv 1 0), (4, .i .i64 i)]) (fun k => pO3 s k) (fun k => i ≤ k ∧ k ≤ s.length ∧ k + (dgT s k).length = i + (dgT s i).length) (fun k => s.length - k) i ⟨Nat.le_refl _, hi, rfl⟩
    ⟨⟨rfl, rfl, rfl, rfl, trivial⟩, ⟨rfl, rfl, rfl, trivial⟩, rfl, by rw [hX]; intro k hk; exact hk⟩ ?_
  rintro k ⟨g1, g2, g3⟩
  have c1 := znl _ (fun c => 48 ≤ c ∧ c ≤ 57) zkG s k hs g2
  by_cases hd : k < s.length ∧ 48 ≤ at' s k ∧ at' s k ≤ 57
  · rw [decide_eq_true (by exact hd)] at c1
    have h2 := zhi hd.1 hd.2
    have g3 := fun _ : Unit => g3
    repeat' (first |with_reducible (first |refine zah ?_|refine zaa ?_|refine zag ?_|refine zad ?_|refine zai ?_|refine zaf ?_|refine zao ?_)|refine zau rfl ?_|((first |refine zab rfl rfl ?_ ?_|refine zaH rfl ?_ ?_);focus (first |omega|exact le_ rfl|((repeat' refine And.intro ?_ ?_)<;>omega)|((repeat' refine And.intro ?_ ?_)<;>first |rfl|exact Nat.le_refl _)))|refine zcz (f := 122) 5 1 rfl rfl Tryz.call122 rfl rfl rfl rfl rfl rfl rfl rfl rfl c1 ?_|fail)
    exact ⟨k + 1, ⟨by omega, by omega, by rw [← g3 (), h2, List.length_cons]; omega⟩, by omega, ⟨rfl, rfl, rfl, rfl, trivial⟩, ⟨rfl, rfl, rfl, trivial⟩, rfl, by rw [hX]; intro k hk; exact hk⟩
  · rw [decide_eq_false (by exact hd)] at c1
    have h2 : dgT s k = [] := zgp (by
      by_cases h : k < s.length
      · exact .inr (fun h3 => hd ⟨h, h3⟩)
      · exact .inl h)
    rw [h2] at g3
    have hk : k = i + (dgT s i).length := by simpa using g3
    have hcut := fun _ : Unit => ziA s i
    subst hk
    clear g3 h2
    repeat' (first |with_reducible (first |refine zah ?_|refine zaa ?_|refine zag ?_|refine zad ?_|refine zan ?_|refine zat ?_|refine zas ?_)|refine zab rfl rfl True.intro ?_|refine zal rfl ?_|((first |refine zab rfl rfl ?_ ?_);focus (first |omega|exact le_ rfl|((repeat' refine And.intro ?_ ?_)<;>omega)))|refine zaB rfl ?_|refine zpt rfl ?_ ?_|refine zcz (f := 122) 5 1 rfl rfl Tryz.call122 rfl rfl rfl rfl rfl rfl rfl rfl rfl c1 ?_|fail)
    · exact congrArg D.s (by rw [Int.toNat_natCast, Int.toNat_natCast]; exact hcut ())
    · exact ⟨⟨rfl, rfl, rfl, trivial⟩⟩
theorem znU (l : List UInt8) (c : UInt8) : powP (l ++ [c]) = min (10 * powP l + ((c.toNat : Int) - 48)) 1099511627776 := by simp [powP]
theorem zmv (x : List UInt8) (hx : ∀ c ∈ x, isD c = true) (hs : x.length ≤ 1048576) : Ctr Tryz.prog 125 [.s x] (.i .i64 (powP x)) := by
  refine zax Tryz.func125 rfl Tryz.ntmps125 Tryz.results125 rfl rfl fun X hL hX => ?_
  repeat' (first |with_reducible (first |refine zah ?_|refine zaa ?_|refine zag ?_|refine zad ?_|refine zaf ?_)|refine zab rfl rfl True.intro ?_|fail)
  refine T.loop hL (fun y : Nat × Int => [(0, .s x), (3, .i .i64 y.2), (6, .i .i64 x.length), (7, .i .i64 y.1)]) (fun _ => []) (fun y => y.1 ≤ x.length ∧ 0 ≤ y.2 ∧ y.2 ≤ 1099511627776 ∧ y.2 = powP (x.take y.1)) (fun y => x.length - y.1) (0, 0) ⟨Nat.zero_le _, by decide, by decide, rfl⟩
    ⟨⟨rfl, rfl, rfl, rfl, trivial⟩, trivial, rfl, by rw [hX]; intro k hk; cases hk⟩ ?_
  rintro ⟨i, n⟩ ⟨g1, g2, g3, g4⟩
  dsimp only at g1 g2 g3 g4 ⊢
  have hd : i < x.length → 48 ≤ at' x i ∧ at' x i ≤ 57 := fun h => zby.1 (hx _ (by simp [List.getD_eq_getElem?_getD, h]))
  have g4 := fun _ : Unit => g4
  have hw : i < x.length → IntKind.i64.wrap (IntKind.u8.wrap (at' x i - 48)) = at' x i - 48 := fun h => by
    have := hd h
    rw [zlG, wi6_]
    omega
  by_cases hi : i < x.length
  · have hw := hw hi
    have hd := hd hi
    repeat' (first |with_reducible (first |refine zah ?_|refine zaa ?_|refine zag ?_|refine zad ?_|refine zai ?_|refine zaf ?_|refine zao ?_)|refine zab rfl rfl True.intro ?_|((first |refine zac rfl ?_ ?_)<;>intro<;>try (first |(exfalso;omega)))|((first |refine zab rfl rfl ?_ ?_);focus (first |(rw [hw];(repeat' refine And.intro ?_ ?_)<;>omega)|omega|((repeat' refine And.intro ?_ ?_)<;>omega)))|fail)
    refine ⟨(i + 1, min (10 * n + IntKind.i64.wrap (IntKind.u8.wrap (at' x i - 48))) 1099511627776), ⟨by dsimp only; omega, by dsimp only; omega, by dsimp only; omega, ?_⟩, by dsimp only; omega, ⟨rfl, rfl, rfl, rfl, trivial⟩, trivial, rfl, by rw [hX]; intro k hk; cases hk⟩
    dsimp only
    rw [hw, zcA x i hi, znU, ← g4 ()]
    rfl
  ·
    repeat' (first |with_reducible (first |refine zah ?_|refine zaa ?_|refine zag ?_|refine zad ?_|refine zan ?_|refine zat ?_|refine zas ?_)|refine zab rfl rfl True.intro ?_|((first |refine zac rfl ?_ ?_)<;>intro<;>try (first |(exfalso;omega)))|refine zaB rfl ?_|refine zaq rfl ?_|fail)
    rw [g4 (), List.take_of_length_le (by omega)]

abbrev pOw (s : List UInt8) (i : Int) : Ow := [(5, .var [.i .i64 i]), (6, .var [pF]), (1, .var [.s s]), (2, .var [.b false, .s [], .i .i64 0])]
abbrev pG : D := .fn 124 [.pv 5 0, .pv 6 0, .pv 1 0]
theorem zgN (a : UInt8) (n : Int) (hn : (a.toNat : Int) = n) (s : List UInt8) (i : Nat) (hs : s.length ≤ 1048576) (hi : i ≤ s.length) : CtrO Tryz.prog 122 [.s [a], .pv 5 0, .pv 1 0] (pO s i) (.b (decide (sat s i n))) (pO s i) := by
  subst hn
  exact znl [a] (fun c => c = (a.toNat : Int)) (set_1 a) s i hs hi
theorem zlT (a b : UInt8) (n m : Int) (hn : (a.toNat : Int) = n) (hm : (b.toNat : Int) = m) (s : List UInt8) (i : Nat) (hs : s.length ≤ 1048576) (hi : i ≤ s.length) : CtrO Tryz.prog 122 [.s [a, b], .pv 5 0, .pv 1 0] (pO s i) (.b (decide (sat s i n ∨ sat s i m))) (pO s i) := by
  subst hn hm
  have := znl [a, b] (fun c => c = (a.toNat : Int) ∨ c = (b.toNat : Int)) (set_2 a b) s i hs hi
  rwa [show decide (i < s.length ∧ (at' s i = (a.toNat : Int) ∨ at' s i = (b.toNat : Int))) = decide (sat s i (a.toNat : Int) ∨ sat s i (b.toNat : Int)) from decide_eq_decide.2 (by unfold sat; constructor <;> intro h <;> omega)] at this
section
variable {s : List UInt8} {i : Nat}
theorem zme (h : sat s i 48) : whN s i = ([48], i + 1) := if_pos h
theorem zmE (h : ¬ sat s i 48) : whN s i = (dgT s i, i + (dgT s i).length) := if_neg h
theorem zpT (h : i ≤ s.length) : (whN s i).2 ≤ s.length := by
  have := zbl s i
  unfold whN
  split
  · rename_i h1
    have := h1.1
    dsimp only
    omega
  · dsimp only
    omega
theorem zns (h : sat s i 46) (h2 : ¬ dgT s (i + 1) = []) : frN s i = (dgT s (i + 1), i + 1 + (dgT s (i + 1)).length) := if_pos ⟨h, h2⟩
theorem zng (h : ¬ sat s i 46 ∨ dgT s (i + 1) = []) : frN s i = ([], i) := if_neg fun h2 => by
  rcases h with h | h
  · exact h h2.1
  · exact h2.2 h
theorem zpM (h : i ≤ s.length) : (frN s i).2 ≤ s.length := by
  have := zbl s (i + 1)
  unfold frN
  split
  · rename_i h1
    have := h1.1.1
    dsimp only
    omega
  · exact h
theorem zrt (h : i ≤ s.length) : sgN s i ≤ s.length := by
  unfold sgN
  split
  · rename_i h1
    rcases h1 with h1 | h1
    · exact h1.1
    · exact h1.1
  · exact h
theorem zgr {pw : List UInt8 → Int} (h : ¬ (sat s i 101 ∨ sat s i 69) ∨ dgT s (sgN s (i + 1)) = []) : exN pw s i = (0, i) := if_neg fun h2 => by
  rcases h with h | h
  · exact h h2.1
  · exact h2.2 h
theorem znP {pw : List UInt8 → Int} (h : sat s i 101 ∨ sat s i 69) (h2 : ¬ dgT s (sgN s (i + 1)) = []) : exN pw s i = (if sat s (i + 1) 45 then -pw (dgT s (sgN s (i + 1))) else pw (dgT s (sgN s (i + 1))), sgN s (i + 1) + (dgT s (sgN s (i + 1))).length) := if_pos ⟨h, h2⟩
theorem zpA : sg0 s ≤ s.length := by
  unfold sg0
  split
  · rename_i h
    exact h.1
  · exact Nat.zero_le _
end
set_option maxHeartbeats 4000000 in
theorem parse_ctr (s : List UInt8) (hs : s.length ≤ 1048576) : Ctr Tryz.prog 78 [.s s] (.tu [dcV (parseG powP s).1, .i .i64 (parseG powP s).2.1, .i .i64 (parseG powP s).2.2]) := by
  generalize hR : parseG powP s = R
  unfold parseG at hR
  replace hR := fun _ : Unit => hR.symm
  refine zax Tryz.func78 rfl Tryz.ntmps78 Tryz.results78 rfl rfl fun X hL hX => ?_
  have c1 := zgN 45 45 rfl s 0 hs (Nat.zero_le _)
  have e5 : sat s 0 45 → (0 : Int) + 1 = (sg0 s : Int) := fun h => by unfold sg0; rw [if_pos h]; rfl
  have e5' : ¬ sat s 0 45 → (0 : Int) = (sg0 s : Int) := fun h => by unfold sg0; rw [if_neg h]; rfl
  repeat' (first |refine zgs 5 hL (fun _ : Unit => [(2, .pv 2 0), (5, .pv 5 0), (6, .pv 6 0), (7, pG), (8, .b (decide (sat s 0 45)))]) (fun _ => pOw s (sg0 s)) (fun _ => True) ?_ ?_|with_reducible (first |refine zah ?_|refine zaa ?_|refine zag ?_|refine zad ?_|refine zai ?_)|refine zab rfl rfl True.intro ?_|((first |refine zac rfl ?_ ?_)<;>intro)|((first |refine zab rfl rfl ?_ ?_|refine zav rfl rfl ?_ ?_|refine zaH rfl ?_ ?_);focus (first |omega|exact le_ rfl|((repeat' refine And.intro ?_ ?_)<;>omega)|((repeat' refine And.intro ?_ ?_)<;>first |rfl|exact Nat.le_refl _)))|refine zcz (f := 122) 5 1 rfl rfl Tryz.call122 rfl rfl rfl rfl rfl rfl rfl rfl rfl c1 ?_|fail)
  · exact ⟨(), trivial, ⟨rfl, rfl, rfl, rfl, rfl, trivial⟩, ⟨congrArg (fun x => some (Own.var [.i .i64 x])) (e5 ‹_›), rfl, rfl, rfl, trivial⟩, rfl, by rw [hX]; intro k hk; cases hk⟩
  · exact ⟨(), trivial, ⟨rfl, rfl, rfl, rfl, rfl, trivial⟩, ⟨congrArg (fun x => some (Own.var [.i .i64 x])) (e5' ‹_›), rfl, rfl, rfl, trivial⟩, rfl, by rw [hX]; intro k hk; cases hk⟩
  clear c1 e5 e5'
  intro _ _
  have hi := zpA (s := s)
  generalize sg0 s = i at hR hi ⊢
  have c1 := zgN 48 48 rfl s i hs hi
  have c2 := zcH s i hs hi
  have L1 := fun h => zme (s := s) (i := i) h
  have L2 := fun h => zmE (s := s) (i := i) h
  repeat' (first |refine zgs 8 hL (fun _ : Unit => [(2, .pv 2 0), (5, .pv 5 0), (6, .pv 6 0), (7, pG), (8, .b (decide (sat s 0 45))), (9, .s (whN s i).1)]) (fun _ => pOw s (whN s i).2) (fun _ => ¬ (whN s i).1 = []) ?_ ?_|with_reducible (first |refine zah ?_|refine zaa ?_|refine zag ?_|refine zad ?_|refine zan ?_|refine zai ?_|refine zam ?_)|refine zab rfl rfl True.intro ?_|((first |refine zac rfl ?_ ?_|refine zaQ rfl ?_ ?_)<;>intro)|((first |refine zab rfl rfl ?_ ?_|refine zaH rfl ?_ ?_);focus (first |omega|exact le_ rfl|((repeat' refine And.intro ?_ ?_)<;>omega)|((repeat' refine And.intro ?_ ?_)<;>first |rfl|exact Nat.le_refl _)))|refine zaq rfl ?_|refine zcz (f := 122) 5 1 rfl rfl Tryz.call122 rfl rfl rfl rfl rfl rfl rfl rfl rfl c1 ?_|refine zgT (f := 124) 5 6 1 rfl rfl Tryz.call124 rfl rfl rfl rfl rfl rfl rfl rfl rfl rfl rfl rfl c2 ?_|fail)
  · rw [L1 ‹_›]
    exact ⟨(), by simp, ⟨rfl, rfl, rfl, rfl, rfl, rfl, trivial⟩, ⟨rfl, rfl, rfl, rfl, trivial⟩, rfl, by rw [hX]; intro k hk; cases hk⟩
  · rename_i h1 h2
    rw [hR (), if_pos (by rw [L2 h1]; exact h2)]
    rfl
  · rename_i h1 h2
    rw [L2 h1]
    exact ⟨(), h2, ⟨rfl, rfl, rfl, rfl, rfl, rfl, trivial⟩, ⟨rfl, rfl, rfl, rfl, trivial⟩, rfl, by rw [hX]; intro k hk; cases hk⟩
  clear c1 c2 L1 L2
  intro _ hw
  replace hR := fun _ : Unit => (hR ()).trans (if_neg hw)
  dsimp only at hR
  have hj := zpT hi
  have lw : (whN s i).1.length ≤ 1048577 := by
    have := zbl s i
    unfold whN
    split <;> dsimp only [List.length_cons, List.length_nil] <;> omega
  generalize whN s i = W at hR hw hj lw ⊢
  obtain ⟨w, j⟩ := W
  dsimp only at hR hw hj lw ⊢
  clear hi hw i
  have c1 := zgN 46 46 rfl s j hs hj
  have c2 := fun h : sat s j 46 => zcH s (j + 1) hs h.1
  have L1 := fun h h2 => zns (s := s) (i := j) h h2
  have L2 := fun h => zng (s := s) (i := j) h
  repeat' (first |refine zgs 15 hL (fun _ : Unit => [(2, .pv 2 0), (5, .pv 5 0), (6, .pv 6 0), (7, pG), (8, .b (decide (sat s 0 45))), (9, .s w), (10, .s (frN s j).1)]) (fun _ => pOw s (frN s j).2) (fun _ => True) ?_ ?_|with_reducible (first |refine zah ?_|refine zaa ?_|refine zag ?_|refine zad ?_|refine zai ?_)|refine zab rfl rfl True.intro ?_|((first |refine zac rfl ?_ ?_|refine zaQ rfl ?_ ?_)<;>intro)|((first |refine zab rfl rfl ?_ ?_|refine zaH rfl ?_ ?_);focus (first |omega|exact le_ rfl|((repeat' refine And.intro ?_ ?_)<;>omega)|((repeat' refine And.intro ?_ ?_)<;>first |rfl|exact Nat.le_refl _)))|refine zcz (f := 122) 5 1 rfl rfl Tryz.call122 rfl rfl rfl rfl rfl rfl rfl rfl rfl c1 ?_|refine zgT (f := 124) 5 6 1 rfl rfl Tryz.call124 rfl rfl rfl rfl rfl rfl rfl rfl rfl rfl rfl rfl (c2 ‹_›) ?_|fail)
  · rename_i h1 h2
    rw [L2 (.inr h2)]
    exact ⟨(), trivial, ⟨rfl, rfl, rfl, rfl, rfl, rfl, congrArg D.s h2, trivial⟩, ⟨rfl, rfl, rfl, rfl, trivial⟩, rfl, by rw [hX]; intro k hk; cases hk⟩
  · rename_i h1 h2
    rw [L1 h1 h2]
    exact ⟨(), trivial, ⟨rfl, rfl, rfl, rfl, rfl, rfl, rfl, trivial⟩, ⟨rfl, rfl, rfl, rfl, trivial⟩, rfl, by rw [hX]; intro k hk; cases hk⟩
  · rename_i h1
    rw [L2 (.inl h1)]
    exact ⟨(), trivial, ⟨rfl, rfl, rfl, rfl, rfl, rfl, rfl, trivial⟩, ⟨rfl, rfl, rfl, rfl, trivial⟩, rfl, by rw [hX]; intro k hk; cases hk⟩
  clear c1 c2 L1 L2
  intro _ _
  have hk := zpM hj
  have lf : (frN s j).1.length ≤ 1048577 := by
    have := zbl s (j + 1)
    unfold frN
    split <;> dsimp only [List.length_cons, List.length_nil] <;> omega
  generalize frN s j = W at hR hk lf ⊢
  obtain ⟨f, k⟩ := W
  dsimp only at hR hk lf ⊢
  have c1 := zlT 101 69 101 69 rfl rfl s k hs hk
  have c2 := fun h : k + 1 ≤ s.length => zgN 45 45 rfl s (k + 1) hs h
  have c3 := fun h : k + 1 ≤ s.length => zlT 43 45 43 45 rfl rfl s (k + 1) hs h
  have c4a := fun (h : k + 1 ≤ s.length) (h2 : sat s (k + 1) 43 ∨ sat s (k + 1) 45) => zcH s (k + 1 + 1) hs (by rcases h2 with h2 | h2; exact h2.1; exact h2.1)
  have c4b := fun (h : k + 1 ≤ s.length) (_ : ¬ (sat s (k + 1) 43 ∨ sat s (k + 1) 45)) => zcH s (k + 1) hs h
  have c5 := fun p => zmv (dgT s p) (zbi _ _) (by have := zbl s p; omega)
  have hp := fun p => (⟨(zlK (dgT s p) (zbi _ _)).1, zmi (dgT s p) 0 (by omega)⟩ : 0 ≤ powP (dgT s p) ∧ powP (dgT s p) ≤ 1099511627776)
  have hp1 := hp (k + 1)
  have hp2 := hp (k + 1 + 1)
  have hs1 : (sat s k 101 ∨ sat s k 69) → k + 1 ≤ s.length := fun h => by
    rcases h with h | h
    · exact h.1
    · exact h.1
  have g1 : (sat s (k + 1) 43 ∨ sat s (k + 1) 45) → sgN s (k + 1) = k + 1 + 1 := fun h => if_pos h
  have g2 : ¬ (sat s (k + 1) 43 ∨ sat s (k + 1) 45) → sgN s (k + 1) = k + 1 := fun h => if_neg h
  have L1 : ∀ p, sgN s (k + 1) = p → (sat s k 101 ∨ sat s k 69) → ¬ dgT s p = [] → exN powP s k = (if sat s (k + 1) 45 then -powP (dgT s p) else powP (dgT s p), p + (dgT s p).length) := fun p hp h h2 => by
    subst hp
    exact znP h h2
  have L2 : ∀ p, sgN s (k + 1) = p → dgT s p = [] → exN powP s k = (0, k) := fun p hp h => by
    subst hp
    exact zgr (.inr h)
  have L3 := fun h => zgr (s := s) (i := k) (pw := powP) (.inl h)
  repeat' (first |refine zgs 22 hL (fun _ : Unit => [(2, .pv 2 0), (5, .pv 5 0), (8, .b (decide (sat s 0 45))), (9, .s w), (10, .s f), (12, .i .i64 (exN powP s k).1)]) (fun _ => pOw s (exN powP s k).2) (fun _ => True) ?_ ?_|with_reducible (first |refine zah ?_|refine zaa ?_|refine zag ?_|refine zad ?_|refine zai ?_)|refine zab rfl rfl True.intro ?_|((first |refine zac rfl ?_ ?_|refine zaQ rfl ?_ ?_)<;>intro)|((first |refine zab rfl rfl ?_ ?_|refine zaH rfl ?_ ?_);focus (first |omega|exact le_ rfl|((repeat' refine And.intro ?_ ?_)<;>omega)|((repeat' refine And.intro ?_ ?_)<;>first |rfl|exact Nat.le_refl _)))|refine zcz (f := 122) 5 1 rfl rfl Tryz.call122 rfl rfl rfl rfl rfl rfl rfl rfl rfl c1 ?_|refine zcz (f := 122) 5 1 rfl rfl Tryz.call122 rfl rfl rfl rfl rfl rfl rfl rfl rfl (c2 (hs1 ‹_›)) ?_|refine zcz (f := 122) 5 1 rfl rfl Tryz.call122 rfl rfl rfl rfl rfl rfl rfl rfl rfl (c3 (hs1 ‹_›)) ?_|refine zgT (f := 124) 5 6 1 rfl rfl Tryz.call124 rfl rfl rfl rfl rfl rfl rfl rfl rfl rfl rfl rfl (c4a (hs1 ‹_›) ‹_›) ?_|refine zgT (f := 124) 5 6 1 rfl rfl Tryz.call124 rfl rfl rfl rfl rfl rfl rfl rfl rfl rfl rfl rfl (c4b (hs1 ‹_›) ‹_›) ?_|refine zae (f := 125) rfl rfl Tryz.call125 rfl (c5 _) ?_|fail)
  · rename_i h1 h2 h3
    rw [L2 _ (g1 h2) h3]
    exact ⟨(), trivial, ⟨rfl, rfl, rfl, rfl, rfl, rfl, trivial⟩, ⟨rfl, rfl, rfl, rfl, trivial⟩, rfl, by rw [hX]; intro k hk; cases hk⟩
  · rename_i h1 h2 h3 h4
    rw [L1 _ (g1 h2) h1 h3, if_pos h4]
    exact ⟨(), trivial, ⟨rfl, rfl, rfl, rfl, rfl, rfl, trivial⟩, ⟨rfl, rfl, rfl, rfl, trivial⟩, rfl, by rw [hX]; intro k hk; cases hk⟩
  · rename_i h1 h2 h3 h4
    rw [L1 _ (g1 h2) h1 h3, if_neg h4]
    exact ⟨(), trivial, ⟨rfl, rfl, rfl, rfl, rfl, rfl, trivial⟩, ⟨rfl, rfl, rfl, rfl, trivial⟩, rfl, by rw [hX]; intro k hk; cases hk⟩
  · rename_i h1 h2 h3
    rw [L2 _ (g2 h2) h3]
    exact ⟨(), trivial, ⟨rfl, rfl, rfl, rfl, rfl, rfl, trivial⟩, ⟨rfl, rfl, rfl, rfl, trivial⟩, rfl, by rw [hX]; intro k hk; cases hk⟩
  · rename_i h1 h2 h3 h4
    exact absurd (.inr h4) h2
  · rename_i h1 h2 h3 h4
    rw [L1 _ (g2 h2) h1 h3, if_neg h4]
    exact ⟨(), trivial, ⟨rfl, rfl, rfl, rfl, rfl, rfl, trivial⟩, ⟨rfl, rfl, rfl, rfl, trivial⟩, rfl, by rw [hX]; intro k hk; cases hk⟩
  · rename_i h1
    rw [L3 h1]
    exact ⟨(), trivial, ⟨rfl, rfl, rfl, rfl, rfl, rfl, trivial⟩, ⟨rfl, rfl, rfl, rfl, trivial⟩, rfl, by rw [hX]; intro k hk; cases hk⟩
  clear c1 c2 c3 c4a c4b g1 g2 L1 L2 L3 hs1 hp1 hp2
  intro _ _
  have hx : -1099511627776 ≤ (exN powP s k).1 ∧ (exN powP s k).1 ≤ 1099511627776 := by
    have := hp (sgN s (k + 1))
    unfold exN
    split
    · dsimp only
      split <;> omega
    · dsimp only
      omega
  clear hp c5
  generalize exN powP s k = W at hR hx ⊢
  obtain ⟨x, m⟩ := W
  dsimp only at hR hx ⊢
  have c1 := zkd (decide (sat s 0 45)) (w ++ f) (x - f.length) (by rw [List.length_append]; omega) (by omega) (by omega)
  generalize normF (decide (sat s 0 45)) (w ++ f) (x - f.length) = W at hR c1
  obtain ⟨⟨n1, d1, e1⟩, err⟩ := W
  dsimp only at hR c1
  repeat' (first |with_reducible (first |refine zah ?_|refine zaa ?_|refine zag ?_|refine zad ?_|refine zan ?_|refine zai ?_|refine zam ?_|refine zaC ?_)|refine zab rfl rfl True.intro ?_|((first |refine zaR rfl ?_ ?_)<;>intro)|((first |refine zab rfl rfl ?_ ?_|refine zaH rfl ?_ ?_);focus (first |omega|exact le_ rfl|((repeat' refine And.intro ?_ ?_)<;>omega)|((repeat' refine And.intro ?_ ?_)<;>first |rfl|exact Nat.le_refl _)))|with_reducible refine ⟨by kernel_rfl, ?_⟩|refine zaq rfl ?_|refine zae (f := 126) rfl rfl Tryz.call126 rfl c1 ?_|fail)
  · rename_i h
    rw [hR (), if_neg h]
    rfl
  · rename_i h
    rw [hR (), if_pos h]
    rfl
end Go.Proofs.YtkkaamhocpmhkaaGreatDoor.Flow
