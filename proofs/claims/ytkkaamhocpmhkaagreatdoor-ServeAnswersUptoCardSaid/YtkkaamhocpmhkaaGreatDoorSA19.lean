/- The texts K10, K13, K14, K15, K9, K11, one behind the other. -/
import Derived.Test.YtkkaamhocpmhkaaGreatDoorSA9
import Derived.Test.YtkkaamhocpmhkaaGreatDoorSA15
import Derived.Test.YtkkaamhocpmhkaaGreatDoorSA17
import Derived.Test.YtkkaamhocpmhkaaGreatDoorSA18
namespace Go.Proofs.YtkkaamhocpmhkaaGreatDoor.Flow
open Go
def alkT (b : List UInt8) (at0 d : Nat) : Nat → Nat → Nat
  | 0, n => n
  | fuel + 1, n => if n < 258 ∧ at0 + n < b.length ∧ b.getD (at0 + n) 0 = b.getD (at0 + n - d) 0 then alkT b at0 d fuel (n + 1) else n
def alk (b : List UInt8) (at0 d : Nat) : Nat := alkT b at0 d 259 0
theorem zfI (b : List UInt8) (at0 d : Nat) : ∀ fuel n, 258 < n + fuel → ∀ f2, 258 < n + f2 → alkT b at0 d fuel n = alkT b at0 d f2 n
  | 0, n, h, 0, h2 => rfl
  | 0, n, h, f2 + 1, h2 => by
    rw [alkT, alkT, if_neg (by omega)]
  | fuel + 1, n, h, 0, h2 => by
    rw [alkT, alkT, if_neg (by omega)]
  | fuel + 1, n, h, f2 + 1, h2 => by
    rw [alkT, alkT]
    split
    · exact zfI b at0 d fuel (n + 1) (by omega) f2 (by omega)
    · rfl
def alkN (b : List UInt8) (at0 d n : Nat) : Nat := alkT b at0 d 259 n
theorem zeY {b : List UInt8} {at0 d n : Nat} (h : n < 258 ∧ at0 + n < b.length ∧ b.getD (at0 + n) 0 = b.getD (at0 + n - d) 0) : alkN b at0 d n = alkN b at0 d (n + 1) := by
  have e : alkN b at0 d n = alkT b at0 d 258 (n + 1) := by
    unfold alkN
    rw [alkT, if_pos h]
  rw [e]
  exact zfI b at0 d 258 (n + 1) (by omega) 259 (by omega)
theorem zhn {b : List UInt8} {at0 d n : Nat} (h : ¬ (n < 258 ∧ at0 + n < b.length ∧ b.getD (at0 + n) 0 = b.getD (at0 + n - d) 0)) : alkN b at0 d n = n := by
  unfold alkN
  rw [alkT, if_neg h]
theorem ziP (b : List UInt8) (at0 d : Nat) : ∀ fuel n, n ≤ 258 → at0 + n ≤ b.length → alkT b at0 d fuel n ≤ 258 ∧ at0 + alkT b at0 d fuel n ≤ b.length
  | 0, n, h, h2 => ⟨h, h2⟩
  | fuel + 1, n, h, h2 => by
    rw [alkT]
    split
    · rename_i q
      exact ziP b at0 d fuel (n + 1) (by omega) (by omega)
    · exact ⟨h, h2⟩
theorem zmT {b : List UInt8} {at0 d : Nat} (h : at0 ≤ b.length) : alk b at0 d ≤ 258 ∧ at0 + alk b at0 d ≤ b.length := ziP b at0 d 259 0 (by decide) (by omega)
def BestOf (A : Nat → Nat) (S : Nat → Prop) (p : Nat × Nat) : Prop :=
  (p = (0, 0) ∧ ∀ d, S d → A d < 3) ∨ (3 ≤ p.1 ∧ S p.2 ∧ A p.2 = p.1 ∧ ∀ d, S d → A d ≤ p.1 ∧ (A d = p.1 → p.2 ≤ d))
theorem BestOf.uniq {A : Nat → Nat} {S : Nat → Prop} {p q : Nat × Nat} (h : BestOf A S p) (k : BestOf A S q) : p = q := by
  obtain ⟨p1, p2⟩ := p
  obtain ⟨q1, q2⟩ := q
  rcases h with ⟨h1, h2⟩ | ⟨h1, h2, h3, h4⟩ <;> rcases k with ⟨k1, k2⟩ | ⟨k1, k2, k3, k4⟩
  · rw [h1, k1]
  · exfalso
    have := h2 q2 k2
    dsimp only at k1 k3
    omega
  · exfalso
    have := k2 p2 h2
    dsimp only at h1 h3
    omega
  · dsimp only at *
    have a1 := h4 q2 k2
    have a2 := k4 p2 h2
    have e : p1 = q1 := by omega
    subst e
    have b1 := a1.2 (by omega)
    have b2 := a2.2 (by omega)
    have e : p2 = q2 := by omega
    rw [e]
theorem BestOf.congr {A : Nat → Nat} {S T : Nat → Prop} {p : Nat × Nat} (h : BestOf A S p) (e : ∀ d, S d ↔ T d) : BestOf A T p := by
  rcases h with ⟨h1, h2⟩ | ⟨h1, h2, h3, h4⟩
  · exact .inl ⟨h1, fun d hd => h2 d ((e d).2 hd)⟩
  · exact .inr ⟨h1, (e _).1 h2, h3, fun d hd => h4 d ((e d).2 hd)⟩
theorem BestOf.up {A : Nat → Nat} {S : Nat → Prop} {p : Nat × Nat} {k : Nat} (h : BestOf A S p) (hk : ∀ d, S d → d < k) : BestOf A (fun d => S d ∨ d = k) (if 3 ≤ A k ∧ p.1 < A k then (A k, k) else p) := by
  by_cases q : 3 ≤ A k ∧ p.1 < A k
  · rw [if_pos q]
    refine .inr ⟨q.1, .inr rfl, rfl, fun d hd => ?_⟩
    dsimp only
    rcases hd with hd | rfl
    · rcases h with ⟨h1, h2⟩ | ⟨h1, h2, h3, h4⟩
      · have := h2 d hd
        omega
      · have := h4 d hd
        omega
    · omega
  · rw [if_neg q]
    rcases h with ⟨h1, h2⟩ | ⟨h1, h2, h3, h4⟩
    · refine .inl ⟨h1, fun d hd => ?_⟩
      rcases hd with hd | rfl
      · exact h2 d hd
      · rw [h1] at q
        dsimp only at q
        omega
    · refine .inr ⟨h1, .inl h2, h3, fun d hd => ?_⟩
      rcases hd with hd | rfl
      · exact h4 d hd
      · have := hk p.2 h2
        omega
theorem BestOf.down {A : Nat → Nat} {S : Nat → Prop} {p : Nat × Nat} {k : Nat} (h : BestOf A S p) (hk : ∀ d, S d → k < d) : BestOf A (fun d => S d ∨ d = k) (if 3 ≤ A k ∧ p.1 ≤ A k then (A k, k) else p) := by
  by_cases q : 3 ≤ A k ∧ p.1 ≤ A k
  · rw [if_pos q]
    refine .inr ⟨q.1, .inr rfl, rfl, fun d hd => ?_⟩
    dsimp only
    rcases hd with hd | rfl
    · have := hk d hd
      rcases h with ⟨h1, h2⟩ | ⟨h1, h2, h3, h4⟩
      · have := h2 d hd
        omega
      · have := h4 d hd
        omega
    · omega
  · rw [if_neg q]
    rcases h with ⟨h1, h2⟩ | ⟨h1, h2, h3, h4⟩
    · refine .inl ⟨h1, fun d hd => ?_⟩
      rcases hd with hd | rfl
      · exact h2 d hd
      · rw [h1] at q
        dsimp only at q
        omega
    · refine .inr ⟨h1, .inl h2, h3, fun d hd => ?_⟩
      rcases hd with hd | rfl
      · exact h4 d hd
      · omega
def bestT (b : List UInt8) (at0 : Nat) : Nat → Nat × Nat
  | 0 => (0, 0)
  | k + 1 => if 3 ≤ alk b at0 (k + 1) ∧ (bestT b at0 k).1 < alk b at0 (k + 1) then (alk b at0 (k + 1), k + 1) else bestT b at0 k
def findB (b : List UInt8) (at0 : Nat) : Nat × Nat := bestT b at0 (min 256 at0)
theorem zcF (b : List UInt8) (at0 : Nat) : ∀ k, BestOf (alk b at0) (fun d => 1 ≤ d ∧ d ≤ k) (bestT b at0 k)
  | 0 => .inl ⟨rfl, fun d hd => by omega⟩
  | k + 1 => by
    rw [bestT]
    exact ((zcF b at0 k).up (k := k + 1) fun d hd => by omega).congr fun d => by omega
theorem zlb {b : List UInt8} {at0 : Nat} (h : at0 ≤ b.length) (k : Nat) : (bestT b at0 k).1 ≤ 258 ∧ at0 + (bestT b at0 k).1 ≤ b.length ∧ (bestT b at0 k).2 ≤ k ∧ ((bestT b at0 k).1 = 0 ∨ (3 ≤ (bestT b at0 k).1 ∧ 1 ≤ (bestT b at0 k).2)) := by
  have ha := fun d => zmT (d := d) h
  rcases zcF b at0 k with ⟨h1, h2⟩ | ⟨h1, h2, h3, h4⟩
  · rw [h1]
    exact ⟨by decide, h, Nat.zero_le _, .inl rfl⟩
  · have := ha (bestT b at0 k).2
    exact ⟨by omega, by omega, h2.2, .inr ⟨h1, h2.1⟩⟩
def tokAt (b : List UInt8) (at0 : Nat) : Nat × Nat := if (findB b at0).1 = 0 then (0, (b.getD at0 0).toNat) else findB b at0
def toksF (b : List UInt8) : Nat → Nat → List (Nat × Nat)
  | 0, _ => []
  | fuel + 1, at0 => if at0 < b.length then tokAt b at0 :: toksF b fuel (at0 + max (tokAt b at0).1 1) else []
theorem zdZ (b : List UInt8) : ∀ fuel at0, b.length < at0 + fuel → ∀ f2, b.length < at0 + f2 → toksF b fuel at0 = toksF b f2 at0
  | 0, at0, h, 0, h2 => rfl
  | 0, at0, h, f2 + 1, h2 => by
    rw [toksF, toksF, if_neg (by omega)]
  | fuel + 1, at0, h, 0, h2 => by
    rw [toksF, toksF, if_neg (by omega)]
  | fuel + 1, at0, h, f2 + 1, h2 => by
    rw [toksF, toksF]
    split
    · rw [zdZ b fuel _ (by omega) f2 (by omega)]
    · rfl
def toks (b : List UInt8) (at0 : Nat) : List (Nat × Nat) := toksF b (b.length + 1) at0
theorem zfe {b : List UInt8} {at0 : Nat} (h : at0 < b.length) : toks b at0 = tokAt b at0 :: toks b (at0 + max (tokAt b at0).1 1) := by
  unfold toks
  rw [toksF, if_pos h, zdZ b b.length _ (by omega) (b.length + 1) (by omega)]
theorem zgX {b : List UInt8} {at0 : Nat} (h : ¬ at0 < b.length) : toks b at0 = [] := by
  unfold toks
  rw [toksF, if_neg h]

def lenP (s : Nat) : Nat × Nat := if s = 285 then (258, 0) else if s < 265 then (s - 254, 0) else (3 + (4 + (s - 257) % 4) * 2 ^ ((s - 261) / 4), (s - 261) / 4)
def disP (s : Nat) : Nat × Nat := if s < 4 then (s + 1, 0) else (1 + (2 + s % 2) * 2 ^ ((s - 2) / 2), (s - 2) / 2)
def symT (of : Nat → Nat × Nat) (n low : Nat) : Nat → Nat × Nat × Nat
  | 0 => (0, 0, 0)
  | j + 1 => if (of (low + j)).1 ≤ n then (low + j, n - (of (low + j)).1, (of (low + j)).2) else symT of n low j
def symF (n : Nat) : Nat × Nat × Nat := symT lenP n 257 29
def farF (n : Nat) : Nat × Nat × Nat := symT disP n 0 30
def pD (p : Nat × Nat) : D := .tu [.i .i64 ((p.1 : Nat) : Int), .i .i64 ((p.2 : Nat) : Int)]
def tD (p : Nat × Nat × Nat) : D := .tu [.i .i64 ((p.1 : Nat) : Int), .i .i64 ((p.2.1 : Nat) : Int), .i .i64 ((p.2.2 : Nat) : Int)]
set_option maxRecDepth 100000 in
set_option maxHeartbeats 8000000 in
theorem zhG (s : Nat) (h1 : 257 ≤ s) (h2 : s ≤ 285) : Ctr Tryz.prog 245 [.i .i64 ((s : Nat) : Int)] (pD (lenP s)) := by
  have hs : s = 257 ∨ s = 258 ∨ s = 259 ∨ s = 260 ∨ s = 261 ∨ s = 262 ∨ s = 263 ∨ s = 264 ∨ s = 265 ∨ s = 266 ∨ s = 267 ∨ s = 268 ∨ s = 269 ∨ s = 270 ∨ s = 271 ∨ s = 272 ∨ s = 273 ∨ s = 274 ∨ s = 275 ∨ s = 276 ∨ s = 277 ∨ s = 278 ∨ s = 279 ∨ s = 280 ∨ s = 281 ∨ s = 282 ∨ s = 283 ∨ s = 284 ∨ s = 285 := by omega
  refine zaE Tryz.func245 rfl Tryz.ntmps245 Tryz.results245 rfl rfl fun X hL hX => ?_
  clear h1 h2
  rcases hs with rfl | rfl | rfl | rfl | rfl | rfl | rfl | rfl | rfl | rfl | rfl | rfl | rfl | rfl | rfl | rfl | rfl | rfl | rfl | rfl | rfl | rfl | rfl | rfl | rfl | rfl | rfl | rfl | rfl
  repeat' (first |with_reducible (first |refine zag ?_|refine zaa ?_|refine zaf ?_|refine zac ?_|refine zar ?_|refine zah ?_|refine zae ?_|refine zai ?_|refine zaB ?_|refine zaO ?_)|refine zab rfl rfl True.intro ?_|refine zam rfl rfl rfl rfl True.intro ?_|refine zas rfl ?_|refine zak rfl ?_|((first |refine zab rfl rfl ?_ ?_);focus (first |omega|((repeat first |rw [wi6_]);(repeat' refine And.intro ?_ ?_)<;>omega)|((repeat' refine And.intro ?_ ?_)<;>first |omega)|(simp_all;omega)))|refine zau rfl ?_|fail)
  all_goals first
    | rfl
    | decide
    | trace_state
set_option maxRecDepth 100000 in
set_option maxHeartbeats 8000000 in
theorem zfs (s : Nat) (h2 : s < 30) : Ctr Tryz.prog 246 [.i .i64 ((s : Nat) : Int)] (pD (disP s)) := by
  have hs : s = 0 ∨ s = 1 ∨ s = 2 ∨ s = 3 ∨ s = 4 ∨ s = 5 ∨ s = 6 ∨ s = 7 ∨ s = 8 ∨ s = 9 ∨ s = 10 ∨ s = 11 ∨ s = 12 ∨ s = 13 ∨ s = 14 ∨ s = 15 ∨ s = 16 ∨ s = 17 ∨ s = 18 ∨ s = 19 ∨ s = 20 ∨ s = 21 ∨ s = 22 ∨ s = 23 ∨ s = 24 ∨ s = 25 ∨ s = 26 ∨ s = 27 ∨ s = 28 ∨ s = 29 := by omega
  refine zaE Tryz.func246 rfl Tryz.ntmps246 Tryz.results246 rfl rfl fun X hL hX => ?_
  clear h2
  rcases hs with rfl | rfl | rfl | rfl | rfl | rfl | rfl | rfl | rfl | rfl | rfl | rfl | rfl | rfl | rfl | rfl | rfl | rfl | rfl | rfl | rfl | rfl | rfl | rfl | rfl | rfl | rfl | rfl | rfl | rfl
  repeat' (first |with_reducible (first |refine zag ?_|refine zaa ?_|refine zaf ?_|refine zac ?_|refine zar ?_|refine zah ?_|refine zae ?_|refine zai ?_|refine zaB ?_|refine zaO ?_)|refine zab rfl rfl True.intro ?_|refine zam rfl rfl rfl rfl True.intro ?_|refine zas rfl ?_|refine zak rfl ?_|((first |refine zab rfl rfl ?_ ?_);focus (first |omega|((repeat first |rw [wi6_]);(repeat' refine And.intro ?_ ?_)<;>omega)|((repeat' refine And.intro ?_ ?_)<;>first |omega)|(simp_all;omega)))|refine zau rfl ?_|fail)
  all_goals first
    | rfl
    | decide
    | trace_state
set_option maxRecDepth 100000 in
set_option maxHeartbeats 8000000 in
theorem zee (fn : FuncId) (of : Nat → Nat × Nat) (n low m : Nat) (hcall : ∀ vs w, (callFunc fn vs).run Tryz.prog w = .ok (.enter fn vs) w) (hc : ∀ j, j ≤ m → Ctr Tryz.prog fn [.i .i64 (((low + j : Nat)) : Int)] (pD (of (low + j)))) (h0 : (of low).1 ≤ n) (hn : n ≤ 100000) (hl : low ≤ 1000) (hm : m ≤ 1000) :
    Ctr Tryz.prog 244 [.i .i64 ((n : Nat) : Int), .i .i64 ((low : Nat) : Int), .i .i64 ((low + m : Nat) : Int), .fn fn []] (tD (symT of n low (m + 1))) := by
  refine zaE Tryz.func244 rfl Tryz.ntmps244 Tryz.results244 rfl rfl fun X hL hX => ?_
  repeat' (first |with_reducible (first |refine zag ?_|refine zaa ?_|refine zaf ?_|refine zac ?_|refine zae ?_)|refine zab rfl rfl True.intro ?_|fail)
  refine T.loop hL (fun x : Nat => [(0, .i .i64 ((n : Nat) : Int)), (1, .i .i64 ((low : Nat) : Int)), (3, .fn fn []), (11, .i .i64 ((low + x : Nat) : Int))]) (fun _ => [])
    (fun x => x ≤ m ∧ symT of n low (m + 1) = symT of n low (x + 1)) (fun x => x) m ⟨Nat.le_refl _, rfl⟩
    ⟨⟨rfl, rfl, rfl, rfl, trivial⟩, trivial, rfl, by rw [hX]; simp⟩ ?_
  rintro x ⟨g1, g2⟩
  try dsimp only at g1 g2 ⊢
  have hx' : ((low + x : Nat) : Int) ≥ (low : Int) := by omega
  have c := hc x g1
  have e : symT of n low (x + 1) = if (of (low + x)).1 ≤ n then (low + x, n - (of (low + x)).1, (of (low + x)).2) else symT of n low x := rfl
  rw [g2]
  have hz : ¬ (of (low + x)).1 ≤ n → 1 ≤ x := fun q => by
    cases x with
    | zero => exact absurd h0 q
    | succ x => omega
  clear g2 hc
  unfold pD at c
  generalize of (low + x) = p at *
  obtain ⟨p1, p2⟩ := p
  dsimp only at e c hz
  by_cases q : p1 ≤ n
  · rw [if_pos q] at e
    rw [e]
    have q' : (p1 : Int) ≤ (n : Int) := by omega
    repeat' (first |refine zaj rfl rfl hcall rfl c ?_|with_reducible (first |refine zag ?_|refine zaa ?_|refine zaf ?_|refine zac ?_|refine zar ?_|refine zah ?_|refine zae ?_|refine zaB ?_|refine zaO ?_)|refine zab rfl rfl True.intro ?_|((first |refine zad rfl ?_ ?_)<;>intro<;>try (first |(exfalso;omega)))|((first |refine zab rfl rfl ?_ ?_);focus (first |omega|((repeat' refine And.intro ?_ ?_)<;>omega)))|refine zau rfl ?_|fail)
    all_goals first
      | (unfold tD; dsimp only; rw [show ((n - p1 : Nat) : Int) = (n : Int) - (p1 : Int) by omega]; done)
      | (exfalso; omega)
      | trace_state
  · rw [if_neg q] at e
    have q' : ¬ (p1 : Int) ≤ (n : Int) := by omega
    have hz := hz q
    have hd : ((low + x : Nat) : Int) - 1 = ((low + (x - 1) : Nat) : Int) := by omega
    rw [show x = x - 1 + 1 by omega] at e
    repeat' (first |refine zaj rfl rfl hcall rfl c ?_|with_reducible (first |refine zag ?_|refine zaa ?_|refine zaf ?_|refine zac ?_|refine zah ?_|refine zae ?_|refine zai ?_)|refine zab rfl rfl True.intro ?_|((first |refine zad rfl ?_ ?_)<;>intro<;>try (first |(exfalso;omega)))|((first |refine zab rfl rfl ?_ ?_);focus (first |omega|((repeat' refine And.intro ?_ ?_)<;>omega)))|fail)
    all_goals first
      | exact ⟨x - 1, ⟨by omega, by rw [show x = x - 1 + 1 by omega]; exact e⟩, by omega, ⟨rfl, rfl, rfl, congrArg (D.i .i64) hd, trivial⟩, trivial, rfl, by rw [hX]; simp⟩
      | (exfalso; omega)
      | trace_state
set_option maxRecDepth 100000 in
set_option maxHeartbeats 8000000 in
theorem zkx (n : Nat) (h1 : 3 ≤ n) (h2 : n ≤ 258) : Ctr Tryz.prog 204 [.i .i64 ((n : Nat) : Int)] (tD (symF n)) := by
  have c := zee 245 lenP n 257 28 Tryz.call245 (fun j hj => zhG (257 + j) (by omega) (by omega)) (by show 3 ≤ n; exact h1) (by omega) (by decide) (by decide)
  refine zaE Tryz.func204 rfl Tryz.ntmps204 Tryz.results204 rfl rfl fun X hL hX => ?_
  unfold symF
  repeat' (first |refine zaj (f := 244) rfl rfl Tryz.call244 rfl c ?_|with_reducible (first |refine zag ?_|refine zaa ?_|refine zaf ?_|refine zac ?_|refine zar ?_|refine zah ?_)|refine zab rfl rfl True.intro ?_|refine zam rfl rfl rfl rfl True.intro ?_|((first |refine zad rfl ?_ ?_|refine zal rfl rfl ?_ ?_)<;>intro<;>try (first |(exfalso;omega)))|refine zau rfl ?_|fail)
  all_goals first
    | rfl
    | (exfalso; omega)
    | trace_state
set_option maxRecDepth 100000 in
set_option maxHeartbeats 8000000 in
theorem zkK (n : Nat) (h1 : 1 ≤ n) (h2 : n ≤ 32768) : Ctr Tryz.prog 205 [.i .i64 ((n : Nat) : Int)] (tD (farF n)) := by
  have c := zee 246 disP n 0 29 Tryz.call246 (fun j hj => by rw [Nat.zero_add]; exact zfs j (by omega)) (by show 1 ≤ n; exact h1) (by omega) (by decide) (by decide)
  refine zaE Tryz.func205 rfl Tryz.ntmps205 Tryz.results205 rfl rfl fun X hL hX => ?_
  unfold farF
  repeat' (first |refine zaj (f := 244) rfl rfl Tryz.call244 rfl c ?_|with_reducible (first |refine zag ?_|refine zaa ?_|refine zaf ?_|refine zac ?_|refine zar ?_|refine zah ?_)|refine zab rfl rfl True.intro ?_|refine zam rfl rfl rfl rfl True.intro ?_|((first |refine zad rfl ?_ ?_|refine zal rfl rfl ?_ ?_)<;>intro<;>try (first |(exfalso;omega)))|refine zau rfl ?_|fail)
  all_goals first
    | rfl
    | (exfalso; omega)
    | trace_state

set_option maxRecDepth 100000 in
set_option maxHeartbeats 8000000 in
theorem zeb (n : Nat) (h : n ≤ 20) : Ctr Tryz.prog 247 [.i .i64 ((n : Nat) : Int)] (.i .i64 ((2 ^ n : Nat) : Int)) := by
  refine zaE Tryz.func247 rfl Tryz.ntmps247 Tryz.results247 rfl rfl fun X hL hX => ?_
  repeat' (first |with_reducible (first |refine zag ?_|refine zaa ?_|refine zaf ?_|refine zac ?_|refine zae ?_)|refine zab rfl rfl True.intro ?_|fail)
  refine T.loop hL (fun x : Nat × Nat => [(0, .i .i64 ((n : Nat) : Int)), (3, .i .i64 x.2), (4, .i .i64 x.1)]) (fun _ => [])
    (fun x => x.1 ≤ n ∧ x.2 = 2 ^ x.1) (fun x => n - x.1) (0, 1) ⟨Nat.zero_le _, rfl⟩
    ⟨⟨rfl, rfl, rfl, trivial⟩, trivial, rfl, by rw [hX]; simp⟩ ?_
  rintro ⟨i, p⟩ ⟨g1, g2⟩
  try dsimp only at g1 g2 ⊢
  have hb : p ≤ 1048576 := by
    rw [g2]
    exact Nat.le_trans (Nat.pow_le_pow_right (by decide) (show i ≤ 20 by omega)) (by decide)
  by_cases hi : i < n
  · have hi' : (i : Int) < (n : Int) := by omega
    have e : 2 * p = 2 ^ (i + 1) := by rw [g2, Nat.pow_succ, Nat.mul_comm]
    repeat' (first |with_reducible (first |refine zag ?_|refine zaa ?_|refine zaf ?_|refine zac ?_|refine zah ?_|refine zae ?_|refine zai ?_)|refine zab rfl rfl True.intro ?_|((first |refine zad rfl ?_ ?_)<;>intro<;>try (first |(exfalso;omega)))|((first |refine zab rfl rfl ?_ ?_);focus (first |omega|((repeat' refine And.intro ?_ ?_)<;>omega)))|fail)
    all_goals first
      | exact ⟨(i + 1, 2 * p), ⟨by dsimp only; omega, e⟩, by dsimp only; omega, ⟨rfl, congrArg (D.i .i64) (Int.natCast_mul 2 p).symm, rfl, trivial⟩, trivial, rfl, by rw [hX]; simp⟩
      | (exfalso; omega)
      | trace_state
  have hi' : ¬ (i : Int) < (n : Int) := by omega
  rw [show n = i by omega, ← g2]
  repeat' (first |with_reducible (first |refine zag ?_|refine zaa ?_|refine zaf ?_|refine zac ?_|refine zar ?_|refine zan ?_|refine zao ?_)|refine zab rfl rfl True.intro ?_|((first |refine zad rfl ?_ ?_)<;>intro<;>try (first |(exfalso;omega)))|refine zat rfl ?_|refine zau rfl ?_|fail)
  all_goals first
    | rfl
    | (exfalso; omega)
    | trace_state
def exL (n : Nat) : Nat := if n < 265 then 0 else (n - 261) / 4
def bL : Nat → Nat
  | 0 => 3
  | j + 1 => bL j + 2 ^ exL (257 + j)
theorem zmV : ∀ j, j < 28 → bL j = (lenP (257 + j)).1 ∧ exL (257 + j) = (lenP (257 + j)).2 ∧ bL j ≤ 258 := by decide +kernel
def exD (n : Nat) : Nat := if n < 4 then 0 else (n - 2) / 2
def bD : Nat → Nat
  | 0 => 1
  | j + 1 => bD j + 2 ^ exD j
theorem zmE : ∀ j, j < 30 → bD j = (disP j).1 ∧ exD j = (disP j).2 ∧ bD j ≤ 32768 := by decide +kernel
set_option maxRecDepth 100000 in
set_option maxHeartbeats 8000000 in
theorem zge (s : Nat) (h1 : 257 ≤ s) (h2 : s ≤ 285) : Ctr Tryz.prog 209 [.i .i64 ((s : Nat) : Int)] (pD (lenP s)) := by
  have cP := fun n h => zeb n h
  refine zaE Tryz.func209 rfl Tryz.ntmps209 Tryz.results209 rfl rfl fun X hL hX => ?_
  by_cases he : s = 285
  · subst he
    repeat' (first |with_reducible (first |refine zag ?_|refine zaa ?_|refine zaf ?_|refine zac ?_|refine zar ?_|refine zaB ?_)|refine zab rfl rfl True.intro ?_|refine zas rfl ?_|refine zau rfl ?_|fail)
    all_goals first
      | rfl
      | (exfalso; omega)
      | trace_state
  have he' : ¬ (s : Int) = 285 := by omega
  obtain ⟨k, rfl⟩ : ∃ k, s = 257 + k := ⟨s - 257, by omega⟩
  obtain ⟨z1, z2, z3⟩ := zmV k (by omega)
  have hP : pD (lenP (257 + k)) = .tu [.i .i64 ((bL k : Nat) : Int), .i .i64 ((exL (257 + k) : Nat) : Int)] := by
    unfold pD
    rw [z1, z2]
  rw [hP]
  repeat' (first |with_reducible (first |refine zag ?_|refine zaa ?_|refine zaf ?_|refine zac ?_|refine zah ?_|refine zae ?_)|refine zab rfl rfl True.intro ?_|((first |refine zad rfl ?_ ?_)<;>intro<;>try (first |(exfalso;omega)))|fail)
  refine T.loop hL (fun j : Nat => [(0, .i .i64 ((257 + k : Nat) : Int)), (4, .i .i64 ((bL j : Nat) : Int)), (5, .i .i64 ((exL (256 + j) : Nat) : Int)), (6, .i .i64 ((257 + j : Nat) : Int))]) (fun _ => [])
    (fun j => j ≤ k) (fun j => k - j) 0 (Nat.zero_le _)
    ⟨⟨rfl, rfl, rfl, rfl, trivial⟩, trivial, rfl, by rw [hX]; simp⟩ ?_
  intro j g1
  try dsimp only at g1 ⊢
  have hlt : ((257 + j : Nat) : Int) < 285 := by omega
  obtain ⟨y1, y2, y3⟩ := zmV j (by omega)
  have x1 : exL (256 + j) ≤ 6 := by
    unfold exL
    split <;> omega
  have x2 : exL (257 + j) ≤ 6 := by
    unfold exL
    split <;> omega
  have c := cP (exL (257 + j)) (by omega)
  have hb : bL (j + 1) = bL j + 2 ^ exL (257 + j) := rfl
  have hp2 : 2 ^ exL (257 + j) ≤ 64 := Nat.le_trans (Nat.pow_le_pow_right (by decide) x2) (by decide)
  have hb' : ((bL j : Nat) : Int) + ((2 ^ exL (257 + j) : Nat) : Int) = ((bL (j + 1) : Nat) : Int) := by rw [hb]; omega
  generalize hw : 2 ^ exL (257 + j) = w at *
  by_cases hx : 265 ≤ 257 + j ∧ (257 + j - 265) % 4 = 0
  · have hx1 : ((257 + j : Nat) : Int) ≥ 265 := by omega
    have hx2 : (((257 + j : Nat) : Int) - 265) % 4 = 0 := by omega
    have hex : exL (257 + j) = exL (256 + j) + 1 := by
      unfold exL
      rw [if_neg (by omega)]
      split <;> omega
    rw [hex] at c
    by_cases hj : j = k
    · subst hj
      rw [hex]
      repeat' (first |with_reducible (first |refine zag ?_|refine zaa ?_|refine zaf ?_|refine zac ?_|refine zar ?_|refine zah ?_|refine zae ?_|refine zaB ?_|refine zaO ?_)|refine zab rfl rfl True.intro ?_|refine zam rfl rfl rfl rfl True.intro ?_|((first |refine zad rfl ?_ ?_|refine zal rfl rfl ?_ ?_)<;>intro<;>try (first |(exfalso;omega)))|((first |refine zab rfl rfl ?_ ?_|refine zam rfl rfl rfl rfl ?_ ?_);focus (first |omega|((repeat' refine And.intro ?_ ?_)<;>omega)))|refine zau rfl ?_|fail)
      all_goals first
        | rfl
        | (exfalso; omega)
        | trace_state
    · have hj' : ¬ ((257 + j : Nat) : Int) = ((257 + k : Nat) : Int) := by omega
      replace c : Ctr Tryz.prog 247 [.i .i64 (((exL (256 + j) : Nat) : Int) + 1)] (.i .i64 ((w : Nat) : Int)) := c
      have hf : ((exL (256 + j) : Nat) : Int) + 1 = ((exL (256 + (j + 1)) : Nat) : Int) := by rw [show 256 + (j + 1) = 257 + j by omega, hex]; rfl
      repeat' (first |refine zaj (f := 247) rfl rfl Tryz.call247 rfl c ?_|with_reducible (first |refine zag ?_|refine zaa ?_|refine zaf ?_|refine zac ?_|refine zah ?_|refine zae ?_|refine zai ?_)|refine zab rfl rfl True.intro ?_|refine zam rfl rfl rfl rfl True.intro ?_|((first |refine zad rfl ?_ ?_|refine zal rfl rfl ?_ ?_)<;>intro<;>try (first |(exfalso;omega)))|((first |refine zab rfl rfl ?_ ?_|refine zam rfl rfl rfl rfl ?_ ?_);focus (first |omega|((repeat' refine And.intro ?_ ?_)<;>omega)))|fail)
      all_goals first
        | exact ⟨j + 1, by omega, by omega, ⟨rfl, congrArg (D.i .i64) hb', congrArg (D.i .i64) hf, rfl, trivial⟩, trivial, rfl, by rw [hX]; simp⟩
        | (exfalso; omega)
        | trace_state
  · have hx1 : ¬ (((257 + j : Nat) : Int) ≥ 265 ∧ (((257 + j : Nat) : Int) - 265) % 4 = 0) := by omega
    have hex : exL (257 + j) = exL (256 + j) := by
      unfold exL
      repeat' split
      all_goals omega
    rw [hex] at c
    by_cases hj : j = k
    · subst hj
      rw [hex]
      repeat' (first |with_reducible (first |refine zag ?_|refine zaa ?_|refine zaf ?_|refine zac ?_|refine zar ?_|refine zah ?_|refine zae ?_|refine zaB ?_|refine zaO ?_)|refine zab rfl rfl True.intro ?_|refine zay rfl rfl rfl ?_|refine zam rfl rfl rfl rfl True.intro ?_|refine zak rfl ?_|((first |refine zad rfl ?_ ?_|refine zal rfl rfl ?_ ?_)<;>intro<;>try (first |(exfalso;omega)))|((first |refine zam rfl rfl rfl rfl ?_ ?_);focus (first |omega|((repeat' refine And.intro ?_ ?_)<;>omega)))|refine zau rfl ?_|fail)
      all_goals first
        | rfl
        | (exfalso; omega)
        | trace_state
    · have hj' : ¬ ((257 + j : Nat) : Int) = ((257 + k : Nat) : Int) := by omega
      have hf : ((exL (256 + j) : Nat) : Int) = ((exL (256 + (j + 1)) : Nat) : Int) := by rw [show 256 + (j + 1) = 257 + j by omega, hex]
      repeat' (first |refine zaj (f := 247) rfl rfl Tryz.call247 rfl c ?_|with_reducible (first |refine zag ?_|refine zaa ?_|refine zaf ?_|refine zac ?_|refine zah ?_|refine zae ?_|refine zai ?_)|refine zab rfl rfl True.intro ?_|refine zay rfl rfl rfl ?_|refine zam rfl rfl rfl rfl True.intro ?_|refine zak rfl ?_|((first |refine zad rfl ?_ ?_|refine zal rfl rfl ?_ ?_)<;>intro<;>try (first |(exfalso;omega)))|((first |refine zab rfl rfl ?_ ?_|refine zam rfl rfl rfl rfl ?_ ?_);focus (first |omega|((repeat' refine And.intro ?_ ?_)<;>omega)))|fail)
      all_goals first
        | exact ⟨j + 1, by omega, by omega, ⟨rfl, congrArg (D.i .i64) hb', congrArg (D.i .i64) hf, rfl, trivial⟩, trivial, rfl, by rw [hX]; simp⟩
        | (exfalso; omega)
        | trace_state
set_option maxRecDepth 100000 in
set_option maxHeartbeats 8000000 in
theorem zeC (k : Nat) (h2 : k < 30) : Ctr Tryz.prog 210 [.i .i64 ((k : Nat) : Int)] (pD (disP k)) := by
  have cP := fun n h => zeb n h
  refine zaE Tryz.func210 rfl Tryz.ntmps210 Tryz.results210 rfl rfl fun X hL hX => ?_
  obtain ⟨z1, z2, z3⟩ := zmE k h2
  have hP : pD (disP k) = .tu [.i .i64 ((bD k : Nat) : Int), .i .i64 ((exD k : Nat) : Int)] := by
    unfold pD
    rw [z1, z2]
  rw [hP]
  repeat' (first |with_reducible (first |refine zag ?_|refine zaa ?_|refine zaf ?_|refine zac ?_|refine zae ?_)|refine zab rfl rfl True.intro ?_|fail)
  refine T.loop hL (fun j : Nat => [(0, .i .i64 ((k : Nat) : Int)), (4, .i .i64 ((bD j : Nat) : Int)), (5, .i .i64 ((exD (j - 1) : Nat) : Int)), (6, .i .i64 ((j : Nat) : Int))]) (fun _ => [])
    (fun j => j ≤ k) (fun j => k - j) 0 (Nat.zero_le _)
    ⟨⟨rfl, rfl, rfl, rfl, trivial⟩, trivial, rfl, by rw [hX]; simp⟩ ?_
  intro j g1
  try dsimp only at g1 ⊢
  have hlt : ((j : Nat) : Int) < 30 := by omega
  obtain ⟨y1, y2, y3⟩ := zmE j (by omega)
  have x1 : exD (j - 1) ≤ 14 := by
    unfold exD
    split <;> omega
  have x2 : exD j ≤ 14 := by
    unfold exD
    split <;> omega
  have c := cP (exD j) (by omega)
  have hb : bD (j + 1) = bD j + 2 ^ exD j := rfl
  have hp2 : 2 ^ exD j ≤ 16384 := Nat.le_trans (Nat.pow_le_pow_right (by decide) x2) (by decide)
  have hb' : ((bD j : Nat) : Int) + ((2 ^ exD j : Nat) : Int) = ((bD (j + 1) : Nat) : Int) := by rw [hb]; omega
  generalize hw : 2 ^ exD j = w at *
  by_cases hx : 4 ≤ j ∧ j % 2 = 0
  · have hx1 : ((j : Nat) : Int) ≥ 4 := by omega
    have hx2 : ((j : Nat) : Int) % 2 = 0 := by omega
    have hex : exD j = exD (j - 1) + 1 := by
      unfold exD
      rw [if_neg (by omega)]
      split <;> omega
    rw [hex] at c
    by_cases hj : j = k
    · subst hj
      rw [hex]
      repeat' (first |with_reducible (first |refine zag ?_|refine zaa ?_|refine zaf ?_|refine zac ?_|refine zar ?_|refine zah ?_|refine zae ?_|refine zaB ?_|refine zaO ?_)|refine zab rfl rfl True.intro ?_|refine zam rfl rfl rfl rfl True.intro ?_|((first |refine zad rfl ?_ ?_|refine zal rfl rfl ?_ ?_)<;>intro<;>try (first |(exfalso;omega)))|((first |refine zab rfl rfl ?_ ?_|refine zam rfl rfl rfl rfl ?_ ?_);focus (first |omega|((repeat' refine And.intro ?_ ?_)<;>omega)))|refine zau rfl ?_|fail)
      all_goals first
        | rfl
        | (exfalso; omega)
        | trace_state
    · have hj' : ¬ ((j : Nat) : Int) = ((k : Nat) : Int) := by omega
      replace c : Ctr Tryz.prog 247 [.i .i64 (((exD (j - 1) : Nat) : Int) + 1)] (.i .i64 ((w : Nat) : Int)) := c
      have hf : ((exD (j - 1) : Nat) : Int) + 1 = ((exD (j + 1 - 1) : Nat) : Int) := by rw [show j + 1 - 1 = j by omega, hex]; rfl
      repeat' (first |refine zaj (f := 247) rfl rfl Tryz.call247 rfl c ?_|with_reducible (first |refine zag ?_|refine zaa ?_|refine zaf ?_|refine zac ?_|refine zah ?_|refine zae ?_|refine zai ?_)|refine zab rfl rfl True.intro ?_|refine zam rfl rfl rfl rfl True.intro ?_|((first |refine zad rfl ?_ ?_|refine zal rfl rfl ?_ ?_)<;>intro<;>try (first |(exfalso;omega)))|((first |refine zab rfl rfl ?_ ?_|refine zam rfl rfl rfl rfl ?_ ?_);focus (first |omega|((repeat' refine And.intro ?_ ?_)<;>omega)))|fail)
      all_goals first
        | exact ⟨j + 1, by omega, by omega, ⟨rfl, congrArg (D.i .i64) hb', congrArg (D.i .i64) hf, rfl, trivial⟩, trivial, rfl, by rw [hX]; simp⟩
        | (exfalso; omega)
        | trace_state
  · have hx1 : ¬ (((j : Nat) : Int) ≥ 4 ∧ ((j : Nat) : Int) % 2 = 0) := by omega
    have hex : exD j = exD (j - 1) := by
      unfold exD
      repeat' split
      all_goals omega
    rw [hex] at c
    by_cases hj : j = k
    · subst hj
      rw [hex]
      repeat' (first |with_reducible (first |refine zag ?_|refine zaa ?_|refine zaf ?_|refine zac ?_|refine zar ?_|refine zah ?_|refine zae ?_|refine zaB ?_|refine zaO ?_)|refine zab rfl rfl True.intro ?_|refine zay rfl rfl rfl ?_|refine zam rfl rfl rfl rfl True.intro ?_|refine zak rfl ?_|((first |refine zad rfl ?_ ?_|refine zal rfl rfl ?_ ?_)<;>intro<;>try (first |(exfalso;omega)))|((first |refine zam rfl rfl rfl rfl ?_ ?_);focus (first |omega|((repeat' refine And.intro ?_ ?_)<;>omega)))|refine zau rfl ?_|fail)
      all_goals first
        | rfl
        | (exfalso; omega)
        | trace_state
    · have hj' : ¬ ((j : Nat) : Int) = ((k : Nat) : Int) := by omega
      have hf : ((exD (j - 1) : Nat) : Int) = ((exD (j + 1 - 1) : Nat) : Int) := by rw [show j + 1 - 1 = j by omega, hex]
      repeat' (first |refine zaj (f := 247) rfl rfl Tryz.call247 rfl c ?_|with_reducible (first |refine zag ?_|refine zaa ?_|refine zaf ?_|refine zac ?_|refine zah ?_|refine zae ?_|refine zai ?_)|refine zab rfl rfl True.intro ?_|refine zay rfl rfl rfl ?_|refine zam rfl rfl rfl rfl True.intro ?_|refine zak rfl ?_|((first |refine zad rfl ?_ ?_|refine zal rfl rfl ?_ ?_)<;>intro<;>try (first |(exfalso;omega)))|((first |refine zab rfl rfl ?_ ?_|refine zam rfl rfl rfl rfl ?_ ?_);focus (first |omega|((repeat' refine And.intro ?_ ?_)<;>omega)))|fail)
      all_goals first
        | exact ⟨j + 1, by omega, by omega, ⟨rfl, congrArg (D.i .i64) hb', congrArg (D.i .i64) hf, rfl, trivial⟩, trivial, rfl, by rw [hX]; simp⟩
        | (exfalso; omega)
        | trace_state
set_option maxRecDepth 100000 in
set_option maxHeartbeats 8000000 in
theorem zjE (n : Nat) (h1 : 3 ≤ n) (h2 : n ≤ 258) : Ctr Tryz.prog 159 [.i .i64 ((n : Nat) : Int)] (tD (symF n)) := by
  have cL := fun s h1 h2 => zge s h1 h2
  refine zaE Tryz.func159 rfl Tryz.ntmps159 Tryz.results159 rfl rfl fun X hL hX => ?_
  repeat' (first |with_reducible (first |refine zag ?_|refine zaa ?_|refine zaf ?_|refine zac ?_|refine zae ?_)|refine zab rfl rfl True.intro ?_|fail)
  refine T.loop hL (fun x : Nat × Nat × Nat × Nat => [(0, .i .i64 ((n : Nat) : Int)), (5, .i .i64 x.2.1), (6, .i .i64 x.2.2.1), (7, .i .i64 x.2.2.2), (8, .i .i64 ((257 + x.1 : Nat) : Int))]) (fun _ => [])
    (fun x => x.1 ≤ 29 ∧ x.2 = symT lenP n 257 x.1) (fun x => 29 - x.1) (0, 0, 0, 0) ⟨Nat.zero_le _, rfl⟩
    ⟨⟨rfl, rfl, rfl, rfl, rfl, trivial⟩, trivial, rfl, by rw [hX]; simp⟩ ?_
  rintro ⟨j, a, b, d⟩ ⟨g1, g2⟩
  try dsimp only at g1 g2 ⊢
  by_cases hj : j < 29
  · have hj' : ((257 + j : Nat) : Int) < 286 := by omega
    have c := cL (257 + j) (by omega) (by omega)
    have e : symT lenP n 257 (j + 1) = if (lenP (257 + j)).1 ≤ n then (257 + j, n - (lenP (257 + j)).1, (lenP (257 + j)).2) else symT lenP n 257 j := rfl
    rw [← g2] at e
    unfold pD at c
    clear g2 cL
    generalize lenP (257 + j) = p at *
    obtain ⟨p1, p2⟩ := p
    dsimp only at e c
    by_cases q : p1 ≤ n
    · rw [if_pos q] at e
      have q' : (p1 : Int) ≤ (n : Int) := by omega
      have hd : (n : Int) - (p1 : Int) = ((n - p1 : Nat) : Int) := by omega
      repeat' (first |refine zaj (f := 209) rfl rfl Tryz.call209 rfl c ?_|with_reducible (first |refine zag ?_|refine zaa ?_|refine zaf ?_|refine zac ?_|refine zah ?_|refine zae ?_|refine zai ?_)|refine zab rfl rfl True.intro ?_|refine zam rfl rfl rfl rfl True.intro ?_|((first |refine zad rfl ?_ ?_|refine zal rfl rfl ?_ ?_)<;>intro<;>try (first |(exfalso;omega)))|((first |refine zab rfl rfl ?_ ?_);focus (first |omega|((repeat' refine And.intro ?_ ?_)<;>omega)))|fail)
      all_goals first
        | exact ⟨(j + 1, 257 + j, n - p1, p2), ⟨by dsimp only; omega, e.symm⟩, by dsimp only; omega, ⟨rfl, rfl, congrArg (D.i .i64) hd, rfl, rfl, trivial⟩, trivial, rfl, by rw [hX]; simp⟩
        | (exfalso; omega)
        | trace_state
    · rw [if_neg q] at e
      have q' : ¬ (p1 : Int) ≤ (n : Int) := by omega
      repeat' (first |refine zaj (f := 209) rfl rfl Tryz.call209 rfl c ?_|with_reducible (first |refine zag ?_|refine zaa ?_|refine zaf ?_|refine zac ?_|refine zah ?_|refine zae ?_|refine zai ?_)|refine zab rfl rfl True.intro ?_|refine zam rfl rfl rfl rfl True.intro ?_|((first |refine zad rfl ?_ ?_|refine zal rfl rfl ?_ ?_)<;>intro<;>try (first |(exfalso;omega)))|((first |refine zab rfl rfl ?_ ?_);focus (first |omega|((repeat' refine And.intro ?_ ?_)<;>omega)))|fail)
      all_goals first
        | exact ⟨(j + 1, a, b, d), ⟨by dsimp only; omega, e.symm⟩, by dsimp only; omega, ⟨rfl, rfl, rfl, rfl, rfl, trivial⟩, trivial, rfl, by rw [hX]; simp⟩
        | (exfalso; omega)
        | trace_state
  have hj' : ¬ ((257 + j : Nat) : Int) < 286 := by omega
  have : j = 29 := by omega
  subst this
  unfold symF
  rw [← g2]
  repeat' (first |with_reducible (first |refine zag ?_|refine zaa ?_|refine zaf ?_|refine zac ?_|refine zar ?_|refine zan ?_|refine zao ?_)|refine zab rfl rfl True.intro ?_|refine zay rfl rfl rfl ?_|refine zak rfl ?_|refine zat rfl ?_|refine zau rfl ?_|fail)
  all_goals first
    | rfl
    | (exfalso; omega)
    | trace_state
set_option maxRecDepth 100000 in
set_option maxHeartbeats 8000000 in
theorem zio (n : Nat) (h1 : 1 ≤ n) (h2 : n ≤ 32768) : Ctr Tryz.prog 160 [.i .i64 ((n : Nat) : Int)] (tD (farF n)) := by
  have cL := fun s h => zeC s h
  refine zaE Tryz.func160 rfl Tryz.ntmps160 Tryz.results160 rfl rfl fun X hL hX => ?_
  repeat' (first |with_reducible (first |refine zag ?_|refine zaa ?_|refine zaf ?_|refine zac ?_|refine zae ?_)|refine zab rfl rfl True.intro ?_|fail)
  refine T.loop hL (fun x : Nat × Nat × Nat × Nat => [(0, .i .i64 ((n : Nat) : Int)), (5, .i .i64 x.2.1), (6, .i .i64 x.2.2.1), (7, .i .i64 x.2.2.2), (8, .i .i64 ((x.1 : Nat) : Int))]) (fun _ => [])
    (fun x => x.1 ≤ 30 ∧ x.2 = symT disP n 0 x.1) (fun x => 30 - x.1) (0, 0, 0, 0) ⟨Nat.zero_le _, rfl⟩
    ⟨⟨rfl, rfl, rfl, rfl, rfl, trivial⟩, trivial, rfl, by rw [hX]; simp⟩ ?_
  rintro ⟨j, a, b, d⟩ ⟨g1, g2⟩
  try dsimp only at g1 g2 ⊢
  by_cases hj : j < 30
  · have hj' : ((j : Nat) : Int) < 30 := by omega
    have c := cL j hj
    have e : symT disP n 0 (j + 1) = if (disP (0 + j)).1 ≤ n then (0 + j, n - (disP (0 + j)).1, (disP (0 + j)).2) else symT disP n 0 j := rfl
    rw [← g2, Nat.zero_add] at e
    unfold pD at c
    clear g2 cL
    generalize disP j = p at *
    obtain ⟨p1, p2⟩ := p
    dsimp only at e c
    by_cases q : p1 ≤ n
    · rw [if_pos q] at e
      have q' : (p1 : Int) ≤ (n : Int) := by omega
      have hd : (n : Int) - (p1 : Int) = ((n - p1 : Nat) : Int) := by omega
      repeat' (first |refine zaj (f := 210) rfl rfl Tryz.call210 rfl c ?_|with_reducible (first |refine zag ?_|refine zaa ?_|refine zaf ?_|refine zac ?_|refine zah ?_|refine zae ?_|refine zai ?_)|refine zab rfl rfl True.intro ?_|refine zam rfl rfl rfl rfl True.intro ?_|((first |refine zad rfl ?_ ?_|refine zal rfl rfl ?_ ?_)<;>intro<;>try (first |(exfalso;omega)))|((first |refine zab rfl rfl ?_ ?_);focus (first |omega|((repeat' refine And.intro ?_ ?_)<;>omega)))|fail)
      all_goals first
        | exact ⟨(j + 1, j, n - p1, p2), ⟨by dsimp only; omega, e.symm⟩, by dsimp only; omega, ⟨rfl, rfl, congrArg (D.i .i64) hd, rfl, rfl, trivial⟩, trivial, rfl, by rw [hX]; simp⟩
        | (exfalso; omega)
        | trace_state
    · rw [if_neg q] at e
      have q' : ¬ (p1 : Int) ≤ (n : Int) := by omega
      repeat' (first |refine zaj (f := 210) rfl rfl Tryz.call210 rfl c ?_|with_reducible (first |refine zag ?_|refine zaa ?_|refine zaf ?_|refine zac ?_|refine zah ?_|refine zae ?_|refine zai ?_)|refine zab rfl rfl True.intro ?_|refine zam rfl rfl rfl rfl True.intro ?_|((first |refine zad rfl ?_ ?_|refine zal rfl rfl ?_ ?_)<;>intro<;>try (first |(exfalso;omega)))|((first |refine zab rfl rfl ?_ ?_);focus (first |omega|((repeat' refine And.intro ?_ ?_)<;>omega)))|fail)
      all_goals first
        | exact ⟨(j + 1, a, b, d), ⟨by dsimp only; omega, e.symm⟩, by dsimp only; omega, ⟨rfl, rfl, rfl, rfl, rfl, trivial⟩, trivial, rfl, by rw [hX]; simp⟩
        | (exfalso; omega)
        | trace_state
  have hj' : ¬ ((j : Nat) : Int) < 30 := by omega
  have : j = 30 := by omega
  subst this
  unfold farF
  rw [← g2]
  repeat' (first |with_reducible (first |refine zag ?_|refine zaa ?_|refine zaf ?_|refine zac ?_|refine zar ?_|refine zan ?_|refine zao ?_)|refine zab rfl rfl True.intro ?_|refine zay rfl rfl rfl ?_|refine zak rfl ?_|refine zat rfl ?_|refine zau rfl ?_|fail)
  all_goals first
    | rfl
    | (exfalso; omega)
    | trace_state

def litB (n : Nat) : List Bool := turnTo (cdLit n) (litN n) (litN n)
def fivB (n : Nat) : List Bool := turnTo (cdFiv n) (fivN n) (fivN n)
def tokB (p : Nat × Nat) : List Bool :=
  if p.1 = 0 then litB p.2
  else litB (symF p.1).1 ++ lowB (symF p.1).2.1 (symF p.1).2.2 ++ fivB (farF p.2).1 ++ lowB (farF p.2).2.1 (farF p.2).2.2
def flatB (l : List (Nat × Nat)) : List Bool := l.flatMap tokB
def bitsOf (b : List UInt8) : List Bool := [true, true, false] ++ flatB (toks b 0) ++ litB 256
theorem zgD : ∀ n, n < 259 → 3 ≤ n → 257 ≤ (symF n).1 ∧ (symF n).1 ≤ 285 ∧ (symF n).2.1 ≤ 300 ∧ (symF n).2.2 ≤ 6 := by decide +kernel
theorem zgt : ∀ n, n < 257 → 1 ≤ n → (farF n).1 < 30 ∧ (farF n).2.1 ≤ 300 ∧ (farF n).2.2 ≤ 14 := by decide +kernel
theorem zcG (n : Nat) : 7 ≤ litN n ∧ litN n ≤ 9 := by
  unfold litN
  repeat' split
  all_goals omega
theorem zhd {n : Nat} (h : n < 288) : cdLit n < 1000 := by
  unfold cdLit
  repeat' split
  all_goals omega
theorem zbE (n : Nat) : (litB n).length ≤ 9 := by
  unfold litB
  rw [zbS]
  exact (zcG n).2
theorem zda (n : Nat) : (fivB n).length = 5 := by
  unfold fivB
  rw [zbS]
  rfl
def okTok (p : Nat × Nat) : Prop := (p.1 = 0 ∧ p.2 < 256) ∨ (3 ≤ p.1 ∧ p.1 ≤ 258 ∧ 1 ≤ p.2 ∧ p.2 ≤ 256)
theorem zdc {p : Nat × Nat} (h : okTok p) : (tokB p).length ≤ 40 := by
  unfold tokB
  rcases h with ⟨h1, h2⟩ | ⟨h1, h2, h3, h4⟩
  · rw [if_pos h1]
    have := zbE p.2
    omega
  · rw [if_neg (by omega)]
    obtain ⟨a1, a2, a3, a4⟩ := zgD p.1 (by omega) h1
    obtain ⟨b1, b2, b3⟩ := zgt p.2 (by omega) h3
    have := zbE (symF p.1).1
    have := zda (farF p.2).1
    simp only [List.length_append, zbh]
    omega
theorem zcB {b : List UInt8} {at0 : Nat} (h : at0 < b.length) : okTok (tokAt b at0) ∧ at0 + max (tokAt b at0).1 1 ≤ b.length := by
  obtain ⟨h1, h2, h3, h4⟩ := zlb (Nat.le_of_lt h) (min 256 at0)
  have e : findB b at0 = bestT b at0 (min 256 at0) := rfl
  rw [← e] at h1 h2 h3 h4
  unfold tokAt
  by_cases q : (findB b at0).1 = 0
  · rw [if_pos q]
    refine ⟨.inl ⟨rfl, UInt8.toNat_lt _⟩, ?_⟩
    dsimp only
    omega
  · rw [if_neg q]
    have h4 := h4.resolve_left q
    exact ⟨.inr ⟨h4.1, h1, h4.2, by omega⟩, by omega⟩
theorem zhM {b : List UInt8} {at0 : Nat} (h : at0 < b.length) (k : List Bool) : k ++ flatB (toks b at0) = (k ++ tokB (tokAt b at0)) ++ flatB (toks b (at0 + max (tokAt b at0).1 1)) := by
  rw [zfe h]
  unfold flatB
  rw [List.flatMap_cons, List.append_assoc]
theorem ziX {b : List UInt8} {at0 : Nat} (h : ¬ at0 < b.length) (k : List Bool) : k ++ flatB (toks b at0) = k := by
  rw [zgX h]
  exact List.append_nil k
theorem zdn (b : List UInt8) : ∀ fuel at0, (flatB (toksF b fuel at0)).length ≤ 40 * (b.length - at0)
  | 0, at0 => Nat.zero_le _
  | fuel + 1, at0 => by
    rw [toksF]
    split
    · rename_i h
      have h1 := zcB h
      have h2 := zdn b fuel (at0 + max (tokAt b at0).1 1)
      have h3 := zdc h1.1
      unfold flatB at h2 ⊢
      rw [List.flatMap_cons, List.length_append]
      omega
    · exact Nat.zero_le _
theorem zcI (b : List UInt8) : (bitsOf b).length ≤ 40 * b.length + 12 := by
  unfold bitsOf
  have h1 := zdn b (b.length + 1) 0
  have h2 := zbE 256
  have e : toks b 0 = toksF b (b.length + 1) 0 := rfl
  rw [e]
  simp only [List.length_append, List.length_cons, List.length_nil]
  omega

theorem zgP : Tryz.prog.underlying 243 = some (.pointer 281) := by kernel_rfl
set_option maxRecDepth 100000 in
set_option maxHeartbeats 4000000 in
theorem zmh (ln cd : Nat → Nat) (N : Nat) (rest : List D) (m : Nat) (hm : m < N) (_hN : N ≤ 1000) (hl : ln m ≤ 15) : Ctr Tryz.prog 242 [.rf (.sl 1 N (bitsAt ln cd 16) :: .sl 1 N (natF ln) :: rest) 0, .i .i64 ((m : Nat) : Int)] (.tu [.i .u32 ((cd m : Nat) : Int), .i .i64 ((ln m : Nat) : Int)]) := by
  have hnat : (m : Int).toNat = m := Int.toNat_natCast m
  have hm' : (m : Int) < (N : Int) := by omega
  refine zaE Tryz.func242 rfl Tryz.ntmps242 Tryz.results242 rfl rfl fun X hL hX => ?_
  repeat' (first |refine zlB zgP rfl rfl rfl ?_|with_reducible (first |refine zag ?_|refine zaa ?_|refine zaf ?_|refine zac ?_|refine zar ?_|refine zah ?_|refine zaH ?_)|refine zab rfl rfl True.intro ?_|refine zam rfl rfl rfl rfl True.intro ?_|((first |refine zad rfl ?_ ?_|refine zal rfl rfl ?_ ?_)<;>intro<;>try (first |(exfalso;omega)))|((first |refine zab rfl rfl ?_ ?_|refine zam rfl rfl rfl rfl ?_ ?_);focus (first |omega|exact le_ rfl|((repeat' refine And.intro ?_ ?_)<;>omega)))|with_reducible refine ⟨by kernel_rfl, ?_⟩|refine zau rfl ?_|fail)
  all_goals first
    | (exfalso; omega)
    | (rw [hnat, if_pos (show ln m < 16 by omega)]; done)
    | (rw [hnat, if_pos (show ln m < 16 by omega)]; rfl)
    | trace_state
set_option maxRecDepth 100000 in
set_option maxHeartbeats 4000000 in
theorem zbX (ln cd : Nat → Nat) (N : Nat) (rest : List D) (m : Nat) (l : List Bool) (hm : m < N) (hN : N ≤ 1000) (h0 : 1 ≤ ln m) (hl : ln m ≤ 15) (hc : cd m < 4294967296) (hlen : l.length ≤ 900000000) (_hr : rest.all D.plain = true) :
    CtrO Tryz.prog 203 [.rf (.sl 1 N (bitsAt ln cd 16) :: .sl 1 N (natF ln) :: rest) 0, .pv 70 0, .i .i64 ((m : Nat) : Int)] (wO l) (.i .i64 0) (wO (l ++ turnTo (cd m) (ln m) (ln m))) := by
  have cO := zmh ln cd N rest m hm hN hl
  have cT := zfY l (cd m) (ln m) hc (by omega) hlen
  have hok := zfM
  refine zbF (ids := [70, 101]) (ids2 := [70, 101]) Tryz.func203 rfl Tryz.ntmps203 Tryz.results203 rfl rfl rfl (fun _ h => h) rfl (zfM _) fun X hL hX => ?_
  unfold wO at cT hok ⊢
  generalize l ++ turnTo (cd m) (ln m) (ln m) = k at *
  repeat' (first |refine zlB zgP rfl rfl rfl ?_|refine zaj (f := 242) rfl rfl Tryz.call242 rfl cO ?_|refine zaS (f := 243) [(70, .var [.ah 101 1 (lenB l.length), .i .i64 ((l.length : Nat) : Int)]), (101, .arr 5 1 (lenB l.length) (bitF l))] [(70, .var [.ah 101 1 (lenB k.length), .i .i64 ((k.length : Nat) : Int)]), (101, .arr 5 1 (lenB k.length) (bitF k))] [70, 101] [70, 101] rfl rfl (by decide) (fun _ h => h) (fun _ h h2 => absurd h h2) rfl rfl Tryz.call243 ⟨rfl, rfl, trivial⟩ rfl (hok l) (hok _) rfl cT ?_|with_reducible (first |refine zag ?_|refine zaa ?_|refine zaf ?_|refine zac ?_|refine zar ?_|refine zah ?_)|refine zab rfl rfl True.intro ?_|refine zak rfl ?_|((first |refine zad rfl ?_ ?_)<;>intro<;>try (first |(exfalso;omega)))|refine zbm rfl (.refl _) ⟨⟨rfl, ⟨_, _, rfl, rfl, fun i hi => .inl rfl⟩, trivial⟩⟩|fail)
  all_goals first
    | (exfalso; omega)
    | trace_state

set_option maxRecDepth 100000 in
set_option maxHeartbeats 4000000 in
theorem ziJ (b : List UInt8) (at0 d : Nat) (hb : b.length ≤ 1000000) (h1 : 1 ≤ d) (h2 : d ≤ at0) (h3 : at0 ≤ b.length) : Ctr Tryz.prog 256 [.sl 1 b.length (bytesF b), .i .i64 ((at0 : Nat) : Int), .i .i64 ((d : Nat) : Int)] (.i .i64 ((alk b at0 d : Nat) : Int)) := by
  refine zaE Tryz.func256 rfl Tryz.ntmps256 Tryz.results256 rfl rfl fun X hL hX => ?_
  repeat' (first |with_reducible (first |refine zag ?_|refine zaa ?_|refine zaf ?_|refine zac ?_|refine zae ?_)|refine zab rfl rfl True.intro ?_|fail)
  refine T.loop hL (fun n : Nat => [(0, .sl 1 b.length (bytesF b)), (1, .i .i64 ((at0 : Nat) : Int)), (2, .i .i64 ((d : Nat) : Int)), (7, .i .i64 n)]) (fun _ => [])
    (fun n => n ≤ 258 ∧ at0 + n ≤ b.length ∧ alk b at0 d = alkN b at0 d n) (fun n => 258 - n) 0 ⟨Nat.zero_le _, h3, rfl⟩
    ⟨⟨rfl, rfl, rfl, rfl, trivial⟩, trivial, rfl, by rw [hX]; simp⟩ ?_
  rintro n ⟨g1, g2, g3⟩
  try dsimp only at g1 g2 g3 ⊢
  have e1 : ((at0 : Int) + (n : Int)).toNat = at0 + n := by omega
  have e2 : ((at0 : Int) + (n : Int) - (d : Int)).toNat = at0 + n - d := by omega
  by_cases q : n < 258 ∧ at0 + n < b.length ∧ b.getD (at0 + n) 0 = b.getD (at0 + n - d) 0
  · rw [zeY q] at g3
    have q1 : (n : Int) < 258 := by omega
    have q2 : (at0 : Int) + (n : Int) < (b.length : Int) := by omega
    have q3 : (((b.getD ((at0 : Int) + (n : Int)).toNat 0).toNat : Nat) : Int) = (((b.getD ((at0 : Int) + (n : Int) - (d : Int)).toNat 0).toNat : Nat) : Int) := by rw [e1, e2, q.2.2]
    repeat' (first |with_reducible (first |refine zag ?_|refine zaa ?_|refine zaf ?_|refine zac ?_|refine zah ?_|refine zae ?_|refine zai ?_|refine zaH ?_)|refine zab rfl rfl True.intro ?_|refine zam rfl rfl rfl rfl True.intro ?_|((first |refine zad rfl ?_ ?_|refine zal rfl rfl ?_ ?_)<;>intro<;>try (first |(exfalso;omega)))|((first |refine zab rfl rfl ?_ ?_|refine zam rfl rfl rfl rfl ?_ ?_);focus (first |omega|exact le_ rfl|((repeat' refine And.intro ?_ ?_)<;>omega)))|with_reducible refine ⟨by kernel_rfl, ?_⟩|fail)
    all_goals first
      | exact ⟨n + 1, ⟨by omega, by omega, g3⟩, by omega, ⟨rfl, rfl, rfl, rfl, trivial⟩, trivial, rfl, by rw [hX]; simp⟩
      | (exfalso; omega)
      | trace_state
  · rw [zhn q] at g3
    rw [g3]
    by_cases q1 : n < 258
    · have q1' : (n : Int) < 258 := by omega
      by_cases q2 : at0 + n < b.length
      · have q2' : (at0 : Int) + (n : Int) < (b.length : Int) := by omega
        have q3 : ¬ (((b.getD ((at0 : Int) + (n : Int)).toNat 0).toNat : Nat) : Int) = (((b.getD ((at0 : Int) + (n : Int) - (d : Int)).toNat 0).toNat : Nat) : Int) := by
          rw [e1, e2]
          intro h
          have h4 : (b.getD (at0 + n) 0).toNat = (b.getD (at0 + n - d) 0).toNat := by omega
          exact q ⟨q1, q2, UInt8.toNat_inj.1 h4⟩
        repeat' (first |with_reducible (first |refine zag ?_|refine zaa ?_|refine zaf ?_|refine zac ?_|refine zar ?_|refine zan ?_|refine zao ?_|refine zaH ?_)|refine zab rfl rfl True.intro ?_|refine zam rfl rfl rfl rfl True.intro ?_|((first |refine zad rfl ?_ ?_|refine zal rfl rfl ?_ ?_)<;>intro<;>try (first |(exfalso;omega)))|((first |refine zam rfl rfl rfl rfl ?_ ?_);focus (first |omega|exact le_ rfl|((repeat' refine And.intro ?_ ?_)<;>omega)))|refine zat rfl ?_|with_reducible refine ⟨by kernel_rfl, ?_⟩|refine zau rfl ?_|fail)
        all_goals first
          | rfl
          | (exfalso; omega)
          | trace_state
      · have q2' : ¬ (at0 : Int) + (n : Int) < (b.length : Int) := by omega
        repeat' (first |with_reducible (first |refine zag ?_|refine zaa ?_|refine zaf ?_|refine zac ?_|refine zar ?_|refine zan ?_|refine zao ?_|refine zaH ?_)|refine zab rfl rfl True.intro ?_|refine zay rfl rfl rfl ?_|refine zam rfl rfl rfl rfl True.intro ?_|refine zak rfl ?_|((first |refine zal rfl rfl ?_ ?_)<;>intro<;>try (first |(exfalso;omega)))|((first |refine zam rfl rfl rfl rfl ?_ ?_);focus (first |omega|((repeat' refine And.intro ?_ ?_)<;>omega)))|refine zat rfl ?_|with_reducible refine ⟨by kernel_rfl, ?_⟩|refine zau rfl ?_|fail)
        all_goals first
          | rfl
          | (exfalso; omega)
          | trace_state
    · have q1' : ¬ (n : Int) < 258 := by omega
      repeat' (first |with_reducible (first |refine zag ?_|refine zaa ?_|refine zaf ?_|refine zac ?_|refine zar ?_|refine zan ?_|refine zao ?_|refine zaH ?_)|refine zab rfl rfl True.intro ?_|refine zay rfl rfl rfl ?_|refine zak rfl ?_|((first |refine zal rfl rfl ?_ ?_)<;>intro<;>try (first |(exfalso;omega)))|refine zat rfl ?_|with_reducible refine ⟨by kernel_rfl, ?_⟩|refine zau rfl ?_|fail)
      all_goals first
        | rfl
        | (exfalso; omega)
        | trace_state
def mtD (p : Nat × Nat) : List D := [.i .i64 ((p.1 : Nat) : Int), .i .i64 ((p.2 : Nat) : Int)]
set_option maxRecDepth 100000 in
set_option maxHeartbeats 4000000 in
theorem zkf (b : List UInt8) (at0 : Nat) (hb : b.length ≤ 1000000) (h3 : at0 ≤ b.length) : Ctr Tryz.prog 241 [.sl 1 b.length (bytesF b), .i .i64 ((at0 : Nat) : Int)] (.ag (mtD (findB b at0))) := by
  have cA := fun d (h1 : 1 ≤ d) (h2 : d ≤ at0) => ziJ b at0 d hb h1 h2 h3
  refine zaE Tryz.func241 rfl Tryz.ntmps241 Tryz.results241 rfl rfl fun X hL hX => ?_
  unfold findB
  repeat' (first |with_reducible (first |refine zag ?_|refine zaa ?_|refine zaf ?_|refine zac ?_|refine zah ?_|refine zae ?_)|refine zab rfl rfl True.intro ?_|refine zam rfl rfl rfl rfl True.intro ?_|((first |refine zad rfl ?_ ?_)<;>intro<;>try (first |(exfalso;omega)))|((first |refine zaw rfl rfl ?_ ?_);focus (first |((repeat' refine And.intro ?_ ?_)<;>omega)|((repeat' refine And.intro ?_ ?_)<;>first |rfl)))|fail)
  all_goals try (exfalso; omega)
  refine T.loop hL (fun x : Nat × Nat × Nat => [(0, .sl 1 b.length (bytesF b)), (1, .i .i64 ((at0 : Nat) : Int)), (4, .pv 4 0), (5, .pv 5 0), (6, .i .i64 ((x.1 + 1 : Nat) : Int))]) (fun x => [(4, .var (mtD (0, 0))), (5, .var (mtD x.2))])
    (fun x => x.1 ≤ min 256 at0 ∧ x.2 = bestT b at0 x.1) (fun x => min 256 at0 - x.1) (0, 0, 0) ⟨Nat.zero_le _, rfl⟩
    ⟨⟨rfl, rfl, rfl, rfl, rfl, trivial⟩, ⟨rfl, rfl, trivial⟩, rfl, by rw [hX]; simp⟩ ?_
  rintro ⟨k, p1, p2⟩ ⟨g1, g2⟩
  try dsimp only at g1 g2 ⊢
  by_cases hk : k < min 256 at0
  rotate_left
  · have hk' : ¬ ((k + 1 : Nat) : Int) ≤ min 256 (at0 : Int) := by omega
    rw [show k = min 256 at0 by omega] at g2
    rw [← g2]
    repeat' (first |with_reducible (first |refine zag ?_|refine zaa ?_|refine zaf ?_|refine zac ?_|refine zar ?_|refine zan ?_|refine zao ?_)|refine zab rfl rfl True.intro ?_|((first |refine zad rfl ?_ ?_)<;>intro<;>try (first |(exfalso;omega)))|((first |refine zab rfl rfl ?_ ?_|refine zax rfl ?_ ?_);focus (first |exact le_ rfl|((repeat' refine And.intro ?_ ?_)<;>omega)|((repeat' refine And.intro ?_ ?_)<;>first |rfl|exact Nat.le_refl _)))|refine zat rfl ?_|refine zau rfl ?_|fail)
    all_goals first
      | rfl
      | (exfalso; omega)
      | trace_state
  have hk' : ((k + 1 : Nat) : Int) ≤ min 256 (at0 : Int) := by omega
  have c := cA (k + 1) (by omega) (by omega)
  have e : bestT b at0 (k + 1) = if 3 ≤ alk b at0 (k + 1) ∧ (bestT b at0 k).1 < alk b at0 (k + 1) then (alk b at0 (k + 1), k + 1) else bestT b at0 k := rfl
  rw [← g2] at e
  clear g2 cA
  generalize alk b at0 (k + 1) = a at *
  by_cases q : 3 ≤ a ∧ p1 < a
  · rw [if_pos q] at e
    have q1 : (a : Int) ≥ 3 := by omega
    have q2 : (a : Int) > (p1 : Int) := by omega
    repeat' (first |refine zaj (f := 256) rfl rfl Tryz.call256 rfl c ?_|with_reducible (first |refine zag ?_|refine zaa ?_|refine zaf ?_|refine zac ?_|refine zah ?_|refine zae ?_|refine zai ?_)|refine zab rfl rfl True.intro ?_|refine zam rfl rfl rfl rfl True.intro ?_|((first |refine zad rfl ?_ ?_|refine zal rfl rfl ?_ ?_)<;>intro<;>try (first |(exfalso;omega)))|((first |refine zab rfl rfl ?_ ?_|refine zam rfl rfl rfl rfl ?_ ?_|refine zax rfl ?_ ?_);focus (first |omega|exact le_ rfl|((repeat' refine And.intro ?_ ?_)<;>omega)|((repeat' refine And.intro ?_ ?_)<;>first |rfl|exact Nat.le_refl _)))|fail)
    all_goals first
      | exact ⟨(k + 1, a, k + 1), ⟨by dsimp only; omega, e.symm⟩, by dsimp only; omega, ⟨rfl, rfl, rfl, rfl, rfl, trivial⟩, ⟨rfl, rfl, trivial⟩, rfl, by rw [hX]; simp⟩
      | (exfalso; omega)
      | trace_state
  · rw [if_neg q] at e
    by_cases q1 : 3 ≤ a
    · have q1' : (a : Int) ≥ 3 := by omega
      have q2 : ¬ (a : Int) > (p1 : Int) := by omega
      repeat' (first |refine zaj (f := 256) rfl rfl Tryz.call256 rfl c ?_|with_reducible (first |refine zag ?_|refine zaa ?_|refine zaf ?_|refine zac ?_|refine zah ?_|refine zae ?_|refine zai ?_)|refine zab rfl rfl True.intro ?_|refine zam rfl rfl rfl rfl True.intro ?_|((first |refine zad rfl ?_ ?_|refine zal rfl rfl ?_ ?_)<;>intro<;>try (first |(exfalso;omega)))|((first |refine zab rfl rfl ?_ ?_|refine zam rfl rfl rfl rfl ?_ ?_);focus (first |omega|exact le_ rfl|((repeat' refine And.intro ?_ ?_)<;>omega)))|fail)
      all_goals first
        | exact ⟨(k + 1, p1, p2), ⟨by dsimp only; omega, e.symm⟩, by dsimp only; omega, ⟨rfl, rfl, rfl, rfl, rfl, trivial⟩, ⟨rfl, rfl, trivial⟩, rfl, by rw [hX]; simp⟩
        | (exfalso; omega)
        | trace_state
    · have q1' : ¬ (a : Int) ≥ 3 := by omega
      repeat' (first |refine zaj (f := 256) rfl rfl Tryz.call256 rfl c ?_|with_reducible (first |refine zag ?_|refine zaa ?_|refine zaf ?_|refine zac ?_|refine zah ?_|refine zae ?_|refine zai ?_)|refine zab rfl rfl True.intro ?_|refine zay rfl rfl rfl ?_|refine zak rfl ?_|((first |refine zad rfl ?_ ?_|refine zal rfl rfl ?_ ?_)<;>intro<;>try (first |(exfalso;omega)))|((first |refine zab rfl rfl ?_ ?_);focus (first |omega|((repeat' refine And.intro ?_ ?_)<;>omega)))|fail)
      all_goals first
        | exact ⟨(k + 1, p1, p2), ⟨by dsimp only; omega, e.symm⟩, by dsimp only; omega, ⟨rfl, rfl, rfl, rfl, rfl, trivial⟩, ⟨rfl, rfl, trivial⟩, rfl, by rw [hX]; simp⟩
        | (exfalso; omega)
        | trace_state
end Go.Proofs.YtkkaamhocpmhkaaGreatDoor.Flow
