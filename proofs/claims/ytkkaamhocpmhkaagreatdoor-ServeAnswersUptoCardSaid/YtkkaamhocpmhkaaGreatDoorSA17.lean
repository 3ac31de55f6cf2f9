/- The texts K6, K8, one behind the other. -/
import Derived.Test.YtkkaamhocpmhkaaGreatDoorSA16
namespace Go.Proofs.YtkkaamhocpmhkaaGreatDoor.Flow
open Go
theorem zhl (ln : Nat → Nat) (N : Nat) : Weak (.sl 1 (0 + N) (catF 0 (chunk 1 []) N (natF ln))) (.sl 1 N (natF ln)) := by
  rw [Nat.zero_add]
  have e : ∀ k, k < N → catF 0 (chunk 1 []) N (natF ln) k = natF ln k := fun k hk => by
    unfold catF
    rw [if_neg (Nat.not_lt_zero _), if_pos (by omega), Nat.sub_zero]
  exact .sl _ _ _ _ (fun k hk => by rw [e k hk]; exact ⟨rfl, rfl⟩) fun k j hk _ => by
    rw [e k hk]
    exact .refl _
def bitsAt (ln cd : Nat → Nat) (s : Nat) : Nat → List D := fun m => [.i .u32 ((if ln m < s then cd m else 0 : Nat) : Int)]
def bitsIn (ln cd rk : Nat → Nat) (s i : Nat) : Nat → List D := fun m => [.i .u32 ((if ln m < s ∨ (ln m = s ∧ rk m < i) then cd m else 0 : Nat) : Int)]
theorem zbB (ln cd rk : Nat → Nat) (s k : Nat) : bitsAt ln cd s k = bitsIn ln cd rk s 0 k := by
  unfold bitsAt bitsIn
  by_cases h : ln k < s
  · rw [if_pos h, if_pos (.inl h)]
  · rw [if_neg h, if_neg (fun q => q.elim h fun q => absurd q.2 (Nat.not_lt_zero _))]
theorem zdi {ln cd rk : Nat → Nat} {s i m0 N : Nat} (h1 : ln m0 = s) (h2 : rk m0 = i) (_h : m0 < N) (h3 : ∀ m, m < N → ln m = s → rk m = i → m = m0) : ∀ m, m < N → putF (bitsIn ln cd rk s i) m0 (putCells (bitsIn ln cd rk s i m0) 0 (D.i .u32 ((cd m0 : Nat) : Int)).cells) m = bitsIn ln cd rk s (i + 1) m := fun m hm => by
  unfold putF
  by_cases h : m = m0
  · rw [if_pos h, h]
    show [D.i .u32 ((cd m0 : Nat) : Int)] = [D.i .u32 ((if ln m0 < s ∨ (ln m0 = s ∧ rk m0 < i + 1) then cd m0 else 0 : Nat) : Int)]
    rw [if_pos (.inr ⟨h1, by omega⟩)]
  · rw [if_neg h]
    unfold bitsIn
    by_cases h4 : ln m < s ∨ (ln m = s ∧ rk m < i)
    · rw [if_pos h4, if_pos (h4.elim .inl fun q => .inr ⟨q.1, by omega⟩)]
    · rw [if_neg h4, if_neg (fun q => h4 (q.elim .inl fun q => .inr ⟨q.1, by
        have : ¬ rk m = i := fun e => h (h3 m hm q.1 e)
        omega⟩))]
def ofLit7 (i : Nat) : Nat := i + 256
def ofLit8 (i : Nat) : Nat := if i < 144 then i else i + 136
def ofLit9 (i : Nat) : Nat := i + 144
def cLit7 (n : Nat) : Nat := if n ≤ 256 then 0 else if n ≤ 280 then n - 256 else 24
def cLit8 (n : Nat) : Nat := if n ≤ 144 then n else if n ≤ 280 then 144 else n - 136
def cLit9 (n : Nat) : Nat := if n ≤ 144 then 0 else if n ≤ 256 then n - 144 else 112
def cdLit (n : Nat) : Nat := if n < 144 then 48 + n else if n < 256 then n + 256 else if n < 280 then n - 256 else n - 88
def rkLit (n : Nat) : Nat := if n < 144 then n else if n < 256 then n - 144 else if n < 280 then n - 256 else n - 136
theorem stepLit7 {n : Nat} (hn : n < 288) (h : litN n = 7) : n = ofLit7 (cLit7 n) ∧ cLit7 (n + 1) = cLit7 n + 1 ∧ cLit7 n ≤ 24 ∧ cLit8 (n + 1) = cLit8 n ∧ cLit9 (n + 1) = cLit9 n := by
  unfold litN at h
  unfold ofLit7 cLit7 cLit8 cLit9
  repeat' split at h
  all_goals first
    | (exfalso; omega)
    | skip
  all_goals (repeat' apply And.intro) <;> (repeat' split) <;> omega
theorem stepLit8 {n : Nat} (hn : n < 288) (h : litN n = 8) : n = ofLit8 (cLit8 n) ∧ cLit8 (n + 1) = cLit8 n + 1 ∧ cLit8 n ≤ 152 ∧ cLit7 (n + 1) = cLit7 n ∧ cLit9 (n + 1) = cLit9 n := by
  unfold litN at h
  unfold ofLit8 cLit7 cLit8 cLit9
  repeat' split at h
  all_goals first
    | (exfalso; omega)
    | skip
  all_goals (repeat' apply And.intro) <;> (repeat' split) <;> omega
theorem stepLit9 {n : Nat} (hn : n < 288) (h : litN n = 9) : n = ofLit9 (cLit9 n) ∧ cLit9 (n + 1) = cLit9 n + 1 ∧ cLit9 n ≤ 112 ∧ cLit7 (n + 1) = cLit7 n ∧ cLit8 (n + 1) = cLit8 n := by
  unfold litN at h
  unfold ofLit9 cLit7 cLit8 cLit9
  repeat' split at h
  all_goals first
    | (exfalso; omega)
    | skip
  all_goals (repeat' apply And.intro) <;> (repeat' split) <;> omega
theorem someLit {n : Nat} (_hn : n < 288) : litN n = 7 ∨ litN n = 8 ∨ litN n = 9 := by
  unfold litN
  repeat' split
  all_goals omega
theorem bits1Lit {k : Nat} (_hk : k < 288) : bitsAt litN cdLit 1 k = [.i .u32 0] := by
  unfold bitsAt
  have := someLit _hk
  rw [if_neg (by omega)]
  rfl
theorem zaG {s k : Nat} (_hk : k < 288) (h : s ≠ 7 ∧ s ≠ 8 ∧ s ≠ 9) : bitsAt litN cdLit s k = bitsAt litN cdLit (s + 1) k := by
  unfold bitsAt
  have := someLit _hk
  by_cases h2 : litN k < s
  · rw [if_pos h2, if_pos (by omega)]
  · rw [if_neg h2, if_neg (by omega)]
theorem ziU {i : Nat} (hi : i < 24) : ofLit7 i < 288 ∧ litN (ofLit7 i) = 7 ∧ rkLit (ofLit7 i) = i ∧ cdLit (ofLit7 i) = 0 + i ∧ ∀ m, m < 288 → litN m = 7 → rkLit m = i → m = ofLit7 i := by
  unfold ofLit7 litN rkLit cdLit
  refine ⟨by omega, ?_, ?_, ?_, fun m hm h1 h2 => ?_⟩
  · repeat' split
    all_goals omega
  · repeat' split
    all_goals omega
  · repeat' split
    all_goals omega
  · repeat' split at h1
    all_goals first
      | (exfalso; omega)
      | skip
    all_goals (repeat' split at h2) <;> omega
theorem zix {i : Nat} (hi : i < 152) : ofLit8 i < 288 ∧ litN (ofLit8 i) = 8 ∧ rkLit (ofLit8 i) = i ∧ cdLit (ofLit8 i) = 48 + i ∧ ∀ m, m < 288 → litN m = 8 → rkLit m = i → m = ofLit8 i := by
  unfold ofLit8 litN rkLit cdLit
  refine ⟨by split <;> omega, ?_, ?_, ?_, fun m hm h1 h2 => ?_⟩
  · repeat' split
    all_goals omega
  · repeat' split
    all_goals omega
  · repeat' split
    all_goals omega
  · repeat' split at h1
    all_goals first
      | (exfalso; omega)
      | skip
    all_goals (repeat' split at h2) <;> (repeat' split) <;> omega
theorem zka {i : Nat} (hi : i < 112) : ofLit9 i < 288 ∧ litN (ofLit9 i) = 9 ∧ rkLit (ofLit9 i) = i ∧ cdLit (ofLit9 i) = 400 + i ∧ ∀ m, m < 288 → litN m = 9 → rkLit m = i → m = ofLit9 i := by
  unfold ofLit9 litN rkLit cdLit
  refine ⟨by omega, ?_, ?_, ?_, fun m hm h1 h2 => ?_⟩
  · repeat' split
    all_goals omega
  · repeat' split
    all_goals omega
  · repeat' split
    all_goals omega
  · repeat' split at h1
    all_goals first
      | (exfalso; omega)
      | skip
    all_goals (repeat' split at h2) <;> omega
theorem bitsInLit {s t k : Nat} (hk : k < 288) (h : ∀ m, m < 288 → litN m = s → rkLit m < t) : bitsIn litN cdLit rkLit s t k = bitsAt litN cdLit (s + 1) k := by
  unfold bitsAt bitsIn
  by_cases h2 : litN k < s + 1
  · rw [if_pos h2, if_pos (by
      by_cases h3 : litN k < s
      · exact .inl h3
      · exact .inr ⟨by omega, h k hk (by omega)⟩)]
  · rw [if_neg h2, if_neg (by omega)]
theorem bitsInLit7 {k : Nat} (hk : k < 288) : bitsIn litN cdLit rkLit 7 24 k = bitsAt litN cdLit 8 k := bitsInLit hk fun m hm h => by
  unfold litN at h
  unfold rkLit
  (repeat' split at h) <;> (repeat' split) <;> omega
theorem bitsInLit8 {k : Nat} (hk : k < 288) : bitsIn litN cdLit rkLit 8 152 k = bitsAt litN cdLit 9 k := bitsInLit hk fun m hm h => by
  unfold litN at h
  unfold rkLit
  (repeat' split at h) <;> (repeat' split) <;> omega
theorem bitsInLit9 {k : Nat} (hk : k < 288) : bitsIn litN cdLit rkLit 9 112 k = bitsAt litN cdLit 10 k := bitsInLit hk fun m hm h => by
  unfold litN at h
  unfold rkLit
  (repeat' split at h) <;> (repeat' split) <;> omega
def firstLit (s : Nat) : List D := (List.range 16).map fun i => D.i .u32 (if i < s then ([0, 0, 0, 0, 0, 0, 0, 0, 48, 400, 1024, 2048, 4096, 8192, 16384, 32768] : List Int).getD i 0 else 0)
def nextLit (s : Nat) : Int := ([0, 0, 0, 0, 0, 0, 0, 0, 24, 200, 512, 1024, 2048, 4096, 8192, 16384, 32768, 0] : List Int).getD s 0
def restLit : List D := [.i .u32 0, .i .u32 0, .i .u32 0, .i .u32 0, .i .u32 0, .i .u32 0, .i .u32 0, .i .u32 0, .i .u32 48, .i .u32 400, .i .u32 1024, .i .u32 2048, .i .u32 4096, .i .u32 8192, .i .u32 16384, .i .u32 32768, .nilS, .nilS, .nilS, .nilS, .nilS, .nilS, .nilS, .sl 1 24 (natF ofLit7), .sl 1 152 (natF ofLit8), .sl 1 112 (natF ofLit9), .nilS, .nilS, .nilS, .nilS, .nilS, .nilS]
def codeLit : List D := .sl 1 288 (bitsAt litN cdLit 16) :: .sl 1 288 (natF litN) :: restLit

def ofFiv5 (i : Nat) : Nat := i
def cFiv5 (n : Nat) : Nat := n
def cdFiv (n : Nat) : Nat := n
def rkFiv (n : Nat) : Nat := n
theorem stepFiv5 {n : Nat} (hn : n < 32) (_h : fivN n = 5) : n = ofFiv5 (cFiv5 n) ∧ cFiv5 (n + 1) = cFiv5 n + 1 ∧ cFiv5 n ≤ 32 := ⟨rfl, rfl, Nat.le_of_lt hn⟩
theorem someFiv {n : Nat} (_hn : n < 32) : fivN n = 5 := rfl
theorem bits1Fiv {k : Nat} (_hk : k < 32) : bitsAt fivN cdFiv 1 k = [.i .u32 0] := rfl
theorem zaC {s k : Nat} (_hk : k < 32) (h : s ≠ 5) : bitsAt fivN cdFiv s k = bitsAt fivN cdFiv (s + 1) k := by
  unfold bitsAt
  have : fivN k = 5 := rfl
  by_cases h2 : fivN k < s
  · rw [if_pos h2, if_pos (by omega)]
  · rw [if_neg h2, if_neg (by omega)]
theorem zjr {i : Nat} (hi : i < 32) : ofFiv5 i < 32 ∧ fivN (ofFiv5 i) = 5 ∧ rkFiv (ofFiv5 i) = i ∧ cdFiv (ofFiv5 i) = 0 + i ∧ ∀ m, m < 32 → fivN m = 5 → rkFiv m = i → m = ofFiv5 i := ⟨hi, rfl, rfl, (Nat.zero_add i).symm, fun _ _ _ h => h⟩
theorem bitsInFiv5 {k : Nat} (hk : k < 32) : bitsIn fivN cdFiv rkFiv 5 32 k = bitsAt fivN cdFiv 6 k := by
  unfold bitsAt bitsIn
  rw [if_pos (.inr ⟨rfl, hk⟩), if_pos (show fivN k < 6 from (by decide : 5 < 6))]
def firstFiv (s : Nat) : List D := (List.range 16).map fun i => D.i .u32 (if i < s then ([0, 0, 0, 0, 0, 0, 64, 128, 256, 512, 1024, 2048, 4096, 8192, 16384, 32768] : List Int).getD i 0 else 0)
def nextFiv (s : Nat) : Int := ([0, 0, 0, 0, 0, 0, 32, 64, 128, 256, 512, 1024, 2048, 4096, 8192, 16384, 32768, 0] : List Int).getD s 0
def restFiv : List D := [.i .u32 0, .i .u32 0, .i .u32 0, .i .u32 0, .i .u32 0, .i .u32 0, .i .u32 64, .i .u32 128, .i .u32 256, .i .u32 512, .i .u32 1024, .i .u32 2048, .i .u32 4096, .i .u32 8192, .i .u32 16384, .i .u32 32768, .nilS, .nilS, .nilS, .nilS, .nilS, .sl 1 32 (natF ofFiv5), .nilS, .nilS, .nilS, .nilS, .nilS, .nilS, .nilS, .nilS, .nilS, .nilS]
def codeFiv : List D := .sl 1 32 (bitsAt fivN cdFiv 16) :: .sl 1 32 (natF fivN) :: restFiv
set_option maxRecDepth 100000 in
set_option maxHeartbeats 16000000 in
theorem zhy : Ctr Tryz.prog 201 [.sl 1 32 (natF fivN), .b false] (.tu [.rf codeFiv 0, .i .i64 0]) := by
  have cK := zeS fivN 32 (by decide) (by decide +kernel)
  rw [zmG] at cK
  refine zaE Tryz.func201 rfl Tryz.ntmps201 Tryz.results201 rfl rfl fun X hL hX => ?_
  repeat' (first |refine T.adoptV 45 23 205 3 1 _ (natF ofFiv5) rfl rfl rfl ?_|refine zaj (f := 238) rfl rfl Tryz.call238 rfl cK ?_|with_reducible (first |refine zag ?_|refine zaa ?_|refine zaf ?_|refine zac ?_|refine zah ?_|refine zae ?_|refine zai ?_|refine zaH ?_)|refine zab rfl rfl True.intro ?_|refine zay rfl rfl rfl ?_|refine zcr rfl rfl rfl ?_|refine zam rfl rfl rfl rfl True.intro ?_|refine zak rfl ?_|((first |refine zaw rfl rfl ?_ ?_);focus (first |((repeat' refine And.intro ?_ ?_)<;>omega)|((repeat' refine And.intro ?_ ?_)<;>first |omega|rfl)))|with_reducible refine ⟨by kernel_rfl, ?_⟩|fail)
  refine T.loop hL (fun x : Nat × Nat => [(8, .pv 45 0), (46, .sl 1 32 (natF fivN)), (47, .i .i64 32), (48, .i .i64 x.1)]) (fun x => [(45, .var [.ah 40 1 32, .gs 41 1 (0 + 32) (catF 0 (chunk 1 []) 32 (natF fivN)), .i .u32 0, .i .u32 0, .i .u32 0, .i .u32 0, .i .u32 0, .i .u32 0, .i .u32 0, .i .u32 0, .i .u32 0, .i .u32 0, .i .u32 0, .i .u32 0, .i .u32 0, .i .u32 0, .i .u32 0, .i .u32 0, .nilS, .nilS, .nilS, .nilS, .nilS, .gs 205 1 x.2 (natF ofFiv5), .nilS, .nilS, .nilS, .nilS, .nilS, .nilS, .nilS, .nilS, .nilS, .nilS]), (40, .arr 139 1 32 (fun _ => [.i .u32 0])), (41, .row 3 1 (0 + 32)), (205, .row 3 1 x.2)])
    (fun x => x.1 ≤ 32 ∧ x.2 = cFiv5 x.1) (fun x => 32 - x.1) (0, 0) ⟨Nat.zero_le _, rfl⟩
    ⟨⟨rfl, rfl, rfl, rfl, trivial⟩, ⟨rfl, ⟨_, _, rfl, rfl, fun k hk => .inl rfl⟩, rfl, rfl, trivial⟩, rfl, by rw [hX]; simp⟩ ?_
  rintro ⟨n, a5⟩ ⟨g1, e5⟩
  try dsimp only at g1 e5 ⊢
  have hnat : (n : Int).toNat = n := Int.toNat_natCast n
  by_cases hn : n < 32
  · have hn' : (n : Int) < 32 := by omega
    by_cases q5 : fivN n = 5
    · have hq : ((fivN (n : Int).toNat : Nat) : Int) = 5 := rfl
      obtain ⟨h1, h2, h3⟩ := stepFiv5 hn q5
      have hv := congrArg (fun d => some (Own.var [.ah 40 1 32, .gs 41 1 (0 + 32) (catF 0 (chunk 1 []) 32 (natF fivN)), .i .u32 0, .i .u32 0, .i .u32 0, .i .u32 0, .i .u32 0, .i .u32 0, .i .u32 0, .i .u32 0, .i .u32 0, .i .u32 0, .i .u32 0, .i .u32 0, .i .u32 0, .i .u32 0, .i .u32 0, .i .u32 0, .nilS, .nilS, .nilS, .nilS, .nilS, d, .nilS, .nilS, .nilS, .nilS, .nilS, .nilS, .nilS, .nilS, .nilS, .nilS])) (zcu 205 a5 ofFiv5 (chunk 1 [.i .i64 (n : Int)]) (n : Int) rfl (by rw [e5]; exact congrArg (fun q : Nat => (q : Int)) h1))
      have hb : a5 ≤ 32 := by rw [e5]; exact h3
      repeat' (first |with_reducible (first |refine zag ?_|refine zaa ?_|refine zaf ?_|refine zac ?_|refine zah ?_|refine zae ?_|refine zai ?_|refine zaH ?_)|refine zab rfl rfl True.intro ?_|refine zas rfl ?_|((first |refine zad rfl ?_ ?_)<;>intro<;>try (first |(exfalso;omega)))|((first |refine zab rfl rfl ?_ ?_|refine zaw rfl rfl ?_ ?_|refine zax rfl ?_ ?_);focus (first |omega|exact le_ rfl|((repeat' refine And.intro ?_ ?_)<;>omega)|((repeat' refine And.intro ?_ ?_)<;>first |omega|rfl|exact le_ rfl)))|with_reducible refine ⟨by kernel_rfl, ?_⟩|fail)
      all_goals first
        | exact ⟨(n + 1, a5 + 1), ⟨by dsimp only; omega, by dsimp only; rw [e5, h2]⟩, by dsimp only; omega, ⟨rfl, rfl, rfl, rfl, trivial⟩, ⟨hv, ⟨_, _, rfl, rfl, fun k hk => .inl rfl⟩, rfl, rfl, trivial⟩, rfl, by rw [hX]; simp⟩
        | (exfalso; omega)
        | trace_state
    exact absurd (someFiv hn) q5
  have hn' : ¬ (n : Int) < 32 := by omega
  have : n = 32 := by omega
  subst this
  have e5 : a5 = 32 := e5
  subst e5
  clear hnat hn g1 cK
  repeat' (first |with_reducible (first |refine zag ?_|refine zaa ?_|refine zaf ?_|refine zac ?_|refine zan ?_|refine zae ?_|refine zao ?_)|refine zab rfl rfl True.intro ?_|refine zak rfl ?_|refine zat rfl ?_|fail)
  refine T.loop hL (fun s : Nat => [(8, .pv 45 0), (11, .i .u32 (nextFiv s)), (12, .i .i64 s)]) (fun s => [(45, .var ([.ah 40 1 32, .gs 41 1 (0 + 32) (catF 0 (chunk 1 []) 32 (natF fivN))] ++ firstFiv s ++ [.nilS, .nilS, .nilS, .nilS, .nilS, .gs 205 1 32 (natF ofFiv5), .nilS, .nilS, .nilS, .nilS, .nilS, .nilS, .nilS, .nilS, .nilS, .nilS])), (40, .arr 139 1 32 (bitsAt fivN cdFiv s)), (41, .row 3 1 (0 + 32)), (205, .row 3 1 32)])
    (fun s => 1 ≤ s ∧ s ≤ 16) (fun s => 16 - s) 1 ⟨Nat.le_refl _, by decide⟩
    ⟨⟨rfl, rfl, rfl, trivial⟩, ⟨rfl, ⟨_, _, rfl, rfl, fun k hk => .inl (by rw [bits1Fiv hk])⟩, rfl, rfl, trivial⟩, rfl, by rw [hX]; simp⟩ ?_
  rintro s ⟨s1, s2⟩
  try dsimp only at s1 s2 ⊢
  have hs : s = 1 ∨ s = 2 ∨ s = 3 ∨ s = 4 ∨ s = 5 ∨ s = 6 ∨ s = 7 ∨ s = 8 ∨ s = 9 ∨ s = 10 ∨ s = 11 ∨ s = 12 ∨ s = 13 ∨ s = 14 ∨ s = 15 ∨ s = 16 := by omega
  rcases hs with rfl | rfl | rfl | rfl | rfl | rfl | rfl | rfl | rfl | rfl | rfl | rfl | rfl | rfl | rfl | rfl
  · rw [show nextFiv 1 = 0 from rfl, show ([D.ah 40 1 32, .gs 41 1 (0 + 32) (catF 0 (chunk 1 []) 32 (natF fivN))] ++ firstFiv 1 ++ [.nilS, .nilS, .nilS, .nilS, .nilS, .gs 205 1 32 (natF ofFiv5), .nilS, .nilS, .nilS, .nilS, .nilS, .nilS, .nilS, .nilS, .nilS, .nilS]) = ([.ah 40 1 32, .gs 41 1 (0 + 32) (catF 0 (chunk 1 []) 32 (natF fivN)), .i .u32 0, .i .u32 0, .i .u32 0, .i .u32 0, .i .u32 0, .i .u32 0, .i .u32 0, .i .u32 0, .i .u32 0, .i .u32 0, .i .u32 0, .i .u32 0, .i .u32 0, .i .u32 0, .i .u32 0, .i .u32 0, .nilS, .nilS, .nilS, .nilS, .nilS, .gs 205 1 32 (natF ofFiv5), .nilS, .nilS, .nilS, .nilS, .nilS, .nilS, .nilS, .nilS, .nilS, .nilS] : List D) from rfl]
    repeat' (first |with_reducible (first |refine zag ?_|refine zaa ?_|refine zaf ?_|refine zac ?_|refine zah ?_|refine zae ?_)|refine zab rfl rfl True.intro ?_|refine zas rfl ?_|((first |refine zab rfl rfl ?_ ?_|refine zax rfl ?_ ?_);focus (first |omega|exact le_ rfl|((repeat' refine And.intro ?_ ?_)<;>omega)|((repeat' refine And.intro ?_ ?_)<;>first |rfl|exact le_ rfl)))|fail)
    refine T.loop hL (fun i : Nat => [(8, .pv 45 0), (11, .i .u32 0), (12, .i .i64 1), (87, .nilS), (88, .i .i64 0), (89, .i .i64 i)]) (fun i => [(45, .var [.ah 40 1 32, .gs 41 1 (0 + 32) (catF 0 (chunk 1 []) 32 (natF fivN)), .i .u32 0, .i .u32 0, .i .u32 0, .i .u32 0, .i .u32 0, .i .u32 0, .i .u32 0, .i .u32 0, .i .u32 0, .i .u32 0, .i .u32 0, .i .u32 0, .i .u32 0, .i .u32 0, .i .u32 0, .i .u32 0, .nilS, .nilS, .nilS, .nilS, .nilS, .gs 205 1 32 (natF ofFiv5), .nilS, .nilS, .nilS, .nilS, .nilS, .nilS, .nilS, .nilS, .nilS, .nilS]), (40, .arr 139 1 32 (bitsAt fivN cdFiv 1)), (41, .row 3 1 (0 + 32)), (205, .row 3 1 32)])
      (fun i => i = 0) (fun i => 0) 0 rfl
      ⟨⟨rfl, rfl, rfl, rfl, rfl, rfl, trivial⟩, ⟨rfl, ⟨_, _, rfl, rfl, fun k hk => .inl rfl⟩, rfl, rfl, trivial⟩, rfl, by rw [hX]; simp⟩ ?_
    rintro i rfl
    try dsimp only
    repeat' (first |with_reducible (first |refine zag ?_|refine zaa ?_|refine zaf ?_|refine zac ?_|refine zan ?_|refine zai ?_|refine zao ?_)|refine zab rfl rfl True.intro ?_|refine zak rfl ?_|((first |refine zab rfl rfl ?_ ?_);focus (first |omega|((repeat' refine And.intro ?_ ?_)<;>omega)))|refine zat rfl ?_|fail)
    all_goals first
      | exact ⟨2, by decide, by decide, ⟨rfl, rfl, rfl, trivial⟩, ⟨rfl, ⟨_, _, rfl, rfl, fun k hk => .inl (by rw [zaC hk (by decide)])⟩, rfl, rfl, trivial⟩, rfl, by rw [hX]; simp⟩
      | (exfalso; omega)
      | trace_state
  · rw [show nextFiv 2 = 0 from rfl, show ([D.ah 40 1 32, .gs 41 1 (0 + 32) (catF 0 (chunk 1 []) 32 (natF fivN))] ++ firstFiv 2 ++ [.nilS, .nilS, .nilS, .nilS, .nilS, .gs 205 1 32 (natF ofFiv5), .nilS, .nilS, .nilS, .nilS, .nilS, .nilS, .nilS, .nilS, .nilS, .nilS]) = ([.ah 40 1 32, .gs 41 1 (0 + 32) (catF 0 (chunk 1 []) 32 (natF fivN)), .i .u32 0, .i .u32 0, .i .u32 0, .i .u32 0, .i .u32 0, .i .u32 0, .i .u32 0, .i .u32 0, .i .u32 0, .i .u32 0, .i .u32 0, .i .u32 0, .i .u32 0, .i .u32 0, .i .u32 0, .i .u32 0, .nilS, .nilS, .nilS, .nilS, .nilS, .gs 205 1 32 (natF ofFiv5), .nilS, .nilS, .nilS, .nilS, .nilS, .nilS, .nilS, .nilS, .nilS, .nilS] : List D) from rfl]
    repeat' (first |with_reducible (first |refine zag ?_|refine zaa ?_|refine zaf ?_|refine zac ?_|refine zah ?_|refine zae ?_)|refine zab rfl rfl True.intro ?_|refine zas rfl ?_|((first |refine zab rfl rfl ?_ ?_|refine zax rfl ?_ ?_);focus (first |omega|exact le_ rfl|((repeat' refine And.intro ?_ ?_)<;>omega)|((repeat' refine And.intro ?_ ?_)<;>first |rfl|exact le_ rfl)))|fail)
    refine T.loop hL (fun i : Nat => [(8, .pv 45 0), (11, .i .u32 0), (12, .i .i64 2), (87, .nilS), (88, .i .i64 0), (89, .i .i64 i)]) (fun i => [(45, .var [.ah 40 1 32, .gs 41 1 (0 + 32) (catF 0 (chunk 1 []) 32 (natF fivN)), .i .u32 0, .i .u32 0, .i .u32 0, .i .u32 0, .i .u32 0, .i .u32 0, .i .u32 0, .i .u32 0, .i .u32 0, .i .u32 0, .i .u32 0, .i .u32 0, .i .u32 0, .i .u32 0, .i .u32 0, .i .u32 0, .nilS, .nilS, .nilS, .nilS, .nilS, .gs 205 1 32 (natF ofFiv5), .nilS, .nilS, .nilS, .nilS, .nilS, .nilS, .nilS, .nilS, .nilS, .nilS]), (40, .arr 139 1 32 (bitsAt fivN cdFiv 2)), (41, .row 3 1 (0 + 32)), (205, .row 3 1 32)])
      (fun i => i = 0) (fun i => 0) 0 rfl
      ⟨⟨rfl, rfl, rfl, rfl, rfl, rfl, trivial⟩, ⟨rfl, ⟨_, _, rfl, rfl, fun k hk => .inl rfl⟩, rfl, rfl, trivial⟩, rfl, by rw [hX]; simp⟩ ?_
    rintro i rfl
    try dsimp only
    repeat' (first |with_reducible (first |refine zag ?_|refine zaa ?_|refine zaf ?_|refine zac ?_|refine zan ?_|refine zai ?_|refine zao ?_)|refine zab rfl rfl True.intro ?_|refine zak rfl ?_|((first |refine zab rfl rfl ?_ ?_);focus (first |omega|((repeat' refine And.intro ?_ ?_)<;>omega)))|refine zat rfl ?_|fail)
    all_goals first
      | exact ⟨3, by decide, by decide, ⟨rfl, rfl, rfl, trivial⟩, ⟨rfl, ⟨_, _, rfl, rfl, fun k hk => .inl (by rw [zaC hk (by decide)])⟩, rfl, rfl, trivial⟩, rfl, by rw [hX]; simp⟩
      | (exfalso; omega)
      | trace_state
  · rw [show nextFiv 3 = 0 from rfl, show ([D.ah 40 1 32, .gs 41 1 (0 + 32) (catF 0 (chunk 1 []) 32 (natF fivN))] ++ firstFiv 3 ++ [.nilS, .nilS, .nilS, .nilS, .nilS, .gs 205 1 32 (natF ofFiv5), .nilS, .nilS, .nilS, .nilS, .nilS, .nilS, .nilS, .nilS, .nilS, .nilS]) = ([.ah 40 1 32, .gs 41 1 (0 + 32) (catF 0 (chunk 1 []) 32 (natF fivN)), .i .u32 0, .i .u32 0, .i .u32 0, .i .u32 0, .i .u32 0, .i .u32 0, .i .u32 0, .i .u32 0, .i .u32 0, .i .u32 0, .i .u32 0, .i .u32 0, .i .u32 0, .i .u32 0, .i .u32 0, .i .u32 0, .nilS, .nilS, .nilS, .nilS, .nilS, .gs 205 1 32 (natF ofFiv5), .nilS, .nilS, .nilS, .nilS, .nilS, .nilS, .nilS, .nilS, .nilS, .nilS] : List D) from rfl]
    repeat' (first |with_reducible (first |refine zag ?_|refine zaa ?_|refine zaf ?_|refine zac ?_|refine zah ?_|refine zae ?_)|refine zab rfl rfl True.intro ?_|refine zas rfl ?_|((first |refine zab rfl rfl ?_ ?_|refine zax rfl ?_ ?_);focus (first |omega|exact le_ rfl|((repeat' refine And.intro ?_ ?_)<;>omega)|((repeat' refine And.intro ?_ ?_)<;>first |rfl|exact le_ rfl)))|fail)
    refine T.loop hL (fun i : Nat => [(8, .pv 45 0), (11, .i .u32 0), (12, .i .i64 3), (87, .nilS), (88, .i .i64 0), (89, .i .i64 i)]) (fun i => [(45, .var [.ah 40 1 32, .gs 41 1 (0 + 32) (catF 0 (chunk 1 []) 32 (natF fivN)), .i .u32 0, .i .u32 0, .i .u32 0, .i .u32 0, .i .u32 0, .i .u32 0, .i .u32 0, .i .u32 0, .i .u32 0, .i .u32 0, .i .u32 0, .i .u32 0, .i .u32 0, .i .u32 0, .i .u32 0, .i .u32 0, .nilS, .nilS, .nilS, .nilS, .nilS, .gs 205 1 32 (natF ofFiv5), .nilS, .nilS, .nilS, .nilS, .nilS, .nilS, .nilS, .nilS, .nilS, .nilS]), (40, .arr 139 1 32 (bitsAt fivN cdFiv 3)), (41, .row 3 1 (0 + 32)), (205, .row 3 1 32)])
      (fun i => i = 0) (fun i => 0) 0 rfl
      ⟨⟨rfl, rfl, rfl, rfl, rfl, rfl, trivial⟩, ⟨rfl, ⟨_, _, rfl, rfl, fun k hk => .inl rfl⟩, rfl, rfl, trivial⟩, rfl, by rw [hX]; simp⟩ ?_
    rintro i rfl
    try dsimp only
    repeat' (first |with_reducible (first |refine zag ?_|refine zaa ?_|refine zaf ?_|refine zac ?_|refine zan ?_|refine zai ?_|refine zao ?_)|refine zab rfl rfl True.intro ?_|refine zak rfl ?_|((first |refine zab rfl rfl ?_ ?_);focus (first |omega|((repeat' refine And.intro ?_ ?_)<;>omega)))|refine zat rfl ?_|fail)
    all_goals first
      | exact ⟨4, by decide, by decide, ⟨rfl, rfl, rfl, trivial⟩, ⟨rfl, ⟨_, _, rfl, rfl, fun k hk => .inl (by rw [zaC hk (by decide)])⟩, rfl, rfl, trivial⟩, rfl, by rw [hX]; simp⟩
      | (exfalso; omega)
      | trace_state
  · rw [show nextFiv 4 = 0 from rfl, show ([D.ah 40 1 32, .gs 41 1 (0 + 32) (catF 0 (chunk 1 []) 32 (natF fivN))] ++ firstFiv 4 ++ [.nilS, .nilS, .nilS, .nilS, .nilS, .gs 205 1 32 (natF ofFiv5), .nilS, .nilS, .nilS, .nilS, .nilS, .nilS, .nilS, .nilS, .nilS, .nilS]) = ([.ah 40 1 32, .gs 41 1 (0 + 32) (catF 0 (chunk 1 []) 32 (natF fivN)), .i .u32 0, .i .u32 0, .i .u32 0, .i .u32 0, .i .u32 0, .i .u32 0, .i .u32 0, .i .u32 0, .i .u32 0, .i .u32 0, .i .u32 0, .i .u32 0, .i .u32 0, .i .u32 0, .i .u32 0, .i .u32 0, .nilS, .nilS, .nilS, .nilS, .nilS, .gs 205 1 32 (natF ofFiv5), .nilS, .nilS, .nilS, .nilS, .nilS, .nilS, .nilS, .nilS, .nilS, .nilS] : List D) from rfl]
    repeat' (first |with_reducible (first |refine zag ?_|refine zaa ?_|refine zaf ?_|refine zac ?_|refine zah ?_|refine zae ?_)|refine zab rfl rfl True.intro ?_|refine zas rfl ?_|((first |refine zab rfl rfl ?_ ?_|refine zax rfl ?_ ?_);focus (first |omega|exact le_ rfl|((repeat' refine And.intro ?_ ?_)<;>omega)|((repeat' refine And.intro ?_ ?_)<;>first |rfl|exact le_ rfl)))|fail)
    refine T.loop hL (fun i : Nat => [(8, .pv 45 0), (11, .i .u32 0), (12, .i .i64 4), (87, .nilS), (88, .i .i64 0), (89, .i .i64 i)]) (fun i => [(45, .var [.ah 40 1 32, .gs 41 1 (0 + 32) (catF 0 (chunk 1 []) 32 (natF fivN)), .i .u32 0, .i .u32 0, .i .u32 0, .i .u32 0, .i .u32 0, .i .u32 0, .i .u32 0, .i .u32 0, .i .u32 0, .i .u32 0, .i .u32 0, .i .u32 0, .i .u32 0, .i .u32 0, .i .u32 0, .i .u32 0, .nilS, .nilS, .nilS, .nilS, .nilS, .gs 205 1 32 (natF ofFiv5), .nilS, .nilS, .nilS, .nilS, .nilS, .nilS, .nilS, .nilS, .nilS, .nilS]), (40, .arr 139 1 32 (bitsAt fivN cdFiv 4)), (41, .row 3 1 (0 + 32)), (205, .row 3 1 32)])
      (fun i => i = 0) (fun i => 0) 0 rfl
      ⟨⟨rfl, rfl, rfl, rfl, rfl, rfl, trivial⟩, ⟨rfl, ⟨_, _, rfl, rfl, fun k hk => .inl rfl⟩, rfl, rfl, trivial⟩, rfl, by rw [hX]; simp⟩ ?_
    rintro i rfl
    try dsimp only
    repeat' (first |with_reducible (first |refine zag ?_|refine zaa ?_|refine zaf ?_|refine zac ?_|refine zan ?_|refine zai ?_|refine zao ?_)|refine zab rfl rfl True.intro ?_|refine zak rfl ?_|((first |refine zab rfl rfl ?_ ?_);focus (first |omega|((repeat' refine And.intro ?_ ?_)<;>omega)))|refine zat rfl ?_|fail)
    all_goals first
      | exact ⟨5, by decide, by decide, ⟨rfl, rfl, rfl, trivial⟩, ⟨rfl, ⟨_, _, rfl, rfl, fun k hk => .inl (by rw [zaC hk (by decide)])⟩, rfl, rfl, trivial⟩, rfl, by rw [hX]; simp⟩
      | (exfalso; omega)
      | trace_state
  · rw [show nextFiv 5 = 0 from rfl, show ([D.ah 40 1 32, .gs 41 1 (0 + 32) (catF 0 (chunk 1 []) 32 (natF fivN))] ++ firstFiv 5 ++ [.nilS, .nilS, .nilS, .nilS, .nilS, .gs 205 1 32 (natF ofFiv5), .nilS, .nilS, .nilS, .nilS, .nilS, .nilS, .nilS, .nilS, .nilS, .nilS]) = ([.ah 40 1 32, .gs 41 1 (0 + 32) (catF 0 (chunk 1 []) 32 (natF fivN)), .i .u32 0, .i .u32 0, .i .u32 0, .i .u32 0, .i .u32 0, .i .u32 0, .i .u32 0, .i .u32 0, .i .u32 0, .i .u32 0, .i .u32 0, .i .u32 0, .i .u32 0, .i .u32 0, .i .u32 0, .i .u32 0, .nilS, .nilS, .nilS, .nilS, .nilS, .gs 205 1 32 (natF ofFiv5), .nilS, .nilS, .nilS, .nilS, .nilS, .nilS, .nilS, .nilS, .nilS, .nilS] : List D) from rfl]
    repeat' (first |with_reducible (first |refine zag ?_|refine zaa ?_|refine zaf ?_|refine zac ?_|refine zah ?_|refine zae ?_)|refine zab rfl rfl True.intro ?_|refine zas rfl ?_|((first |refine zab rfl rfl ?_ ?_|refine zax rfl ?_ ?_);focus (first |omega|exact le_ rfl|((repeat' refine And.intro ?_ ?_)<;>omega)|((repeat' refine And.intro ?_ ?_)<;>first |rfl|exact le_ rfl)))|fail)
    refine T.loop hL (fun i : Nat => [(8, .pv 45 0), (11, .i .u32 (0 + (i : Int))), (12, .i .i64 5), (87, .gs 205 1 32 (natF ofFiv5)), (88, .i .i64 32), (89, .i .i64 i)]) (fun i => [(45, .var [.ah 40 1 32, .gs 41 1 (0 + 32) (catF 0 (chunk 1 []) 32 (natF fivN)), .i .u32 0, .i .u32 0, .i .u32 0, .i .u32 0, .i .u32 0, .i .u32 0, .i .u32 0, .i .u32 0, .i .u32 0, .i .u32 0, .i .u32 0, .i .u32 0, .i .u32 0, .i .u32 0, .i .u32 0, .i .u32 0, .nilS, .nilS, .nilS, .nilS, .nilS, .gs 205 1 32 (natF ofFiv5), .nilS, .nilS, .nilS, .nilS, .nilS, .nilS, .nilS, .nilS, .nilS, .nilS]), (40, .arr 139 1 32 (bitsIn fivN cdFiv rkFiv 5 i)), (41, .row 3 1 (0 + 32)), (205, .row 3 1 32)])
      (fun i => i ≤ 32) (fun i => 32 - i) 0 (Nat.zero_le _)
      ⟨⟨rfl, rfl, rfl, rfl, rfl, rfl, trivial⟩, ⟨rfl, ⟨_, _, rfl, rfl, fun k hk => .inl (by rw [zbB])⟩, rfl, rfl, trivial⟩, rfl, by rw [hX]; simp⟩ ?_
    intro i g1
    try dsimp only at g1 ⊢
    have hnat : (i : Int).toNat = i := Int.toNat_natCast i
    by_cases hi : i < 32
    · have hi' : (i : Int) < 32 := by omega
      obtain ⟨m1, m2, m3, m4, m5⟩ := zjr hi
      have m1' : ((ofFiv5 (i : Int).toNat : Nat) : Int) < 32 := by rw [hnat]; omega
      have hput := zdi (ln := fivN) (cd := cdFiv) (rk := rkFiv) (s := 5) (i := i) (m0 := ofFiv5 i) (N := 32) m2 m3 (by omega) m5
      rw [m4] at hput
      have hw : IntKind.u32.wrap (0 + (i : Int) + 1) = 0 + ((i + 1 : Nat) : Int) := by rw [IntKind.wrap_u32]; omega
      repeat' (first |with_reducible (first |refine zag ?_|refine zaa ?_|refine zaf ?_|refine zac ?_|refine zah ?_|refine zae ?_|refine zai ?_)|refine zab rfl rfl True.intro ?_|((first |refine zad rfl ?_ ?_)<;>intro<;>try (first |(exfalso;omega)))|((first |refine zab rfl rfl ?_ ?_|refine zax rfl ?_ ?_);focus (first |omega|exact le_ rfl|((repeat' refine And.intro ?_ ?_)<;>omega)|((repeat' refine And.intro ?_ ?_)<;>first |omega|rfl|exact Nat.le_refl _)))|fail)
      all_goals first
        | exact ⟨i + 1, by omega, by omega, ⟨rfl, congrArg (D.i .u32) hw, rfl, rfl, rfl, rfl, trivial⟩, ⟨rfl, ⟨_, _, rfl, rfl, fun k hk => .inl (hput k hk)⟩, rfl, rfl, trivial⟩, rfl, by rw [hX]; simp⟩
        | (exfalso; omega)
        | trace_state
    have hi' : ¬ (i : Int) < 32 := by omega
    have : i = 32 := by omega
    subst this
    repeat' (first |with_reducible (first |refine zag ?_|refine zaa ?_|refine zaf ?_|refine zac ?_|refine zan ?_|refine zai ?_|refine zao ?_)|refine zab rfl rfl True.intro ?_|refine zak rfl ?_|((first |refine zab rfl rfl ?_ ?_);focus (first |omega|((repeat' refine And.intro ?_ ?_)<;>omega)))|refine zat rfl ?_|fail)
    all_goals first
      | exact ⟨6, by decide, by decide, ⟨rfl, rfl, rfl, trivial⟩, ⟨rfl, ⟨_, _, rfl, rfl, fun k hk => .inl (bitsInFiv5 hk)⟩, rfl, rfl, trivial⟩, rfl, by rw [hX]; simp⟩
      | (exfalso; omega)
      | trace_state
  · rw [show nextFiv 6 = 32 from rfl, show ([D.ah 40 1 32, .gs 41 1 (0 + 32) (catF 0 (chunk 1 []) 32 (natF fivN))] ++ firstFiv 6 ++ [.nilS, .nilS, .nilS, .nilS, .nilS, .gs 205 1 32 (natF ofFiv5), .nilS, .nilS, .nilS, .nilS, .nilS, .nilS, .nilS, .nilS, .nilS, .nilS]) = ([.ah 40 1 32, .gs 41 1 (0 + 32) (catF 0 (chunk 1 []) 32 (natF fivN)), .i .u32 0, .i .u32 0, .i .u32 0, .i .u32 0, .i .u32 0, .i .u32 0, .i .u32 0, .i .u32 0, .i .u32 0, .i .u32 0, .i .u32 0, .i .u32 0, .i .u32 0, .i .u32 0, .i .u32 0, .i .u32 0, .nilS, .nilS, .nilS, .nilS, .nilS, .gs 205 1 32 (natF ofFiv5), .nilS, .nilS, .nilS, .nilS, .nilS, .nilS, .nilS, .nilS, .nilS, .nilS] : List D) from rfl]
    repeat' (first |with_reducible (first |refine zag ?_|refine zaa ?_|refine zaf ?_|refine zac ?_|refine zah ?_|refine zae ?_)|refine zab rfl rfl True.intro ?_|refine zas rfl ?_|((first |refine zab rfl rfl ?_ ?_|refine zax rfl ?_ ?_);focus (first |omega|exact le_ rfl|((repeat' refine And.intro ?_ ?_)<;>omega)|((repeat' refine And.intro ?_ ?_)<;>first |rfl|exact le_ rfl)))|fail)
    refine T.loop hL (fun i : Nat => [(8, .pv 45 0), (11, .i .u32 64), (12, .i .i64 6), (87, .nilS), (88, .i .i64 0), (89, .i .i64 i)]) (fun i => [(45, .var [.ah 40 1 32, .gs 41 1 (0 + 32) (catF 0 (chunk 1 []) 32 (natF fivN)), .i .u32 0, .i .u32 0, .i .u32 0, .i .u32 0, .i .u32 0, .i .u32 0, .i .u32 64, .i .u32 0, .i .u32 0, .i .u32 0, .i .u32 0, .i .u32 0, .i .u32 0, .i .u32 0, .i .u32 0, .i .u32 0, .nilS, .nilS, .nilS, .nilS, .nilS, .gs 205 1 32 (natF ofFiv5), .nilS, .nilS, .nilS, .nilS, .nilS, .nilS, .nilS, .nilS, .nilS, .nilS]), (40, .arr 139 1 32 (bitsAt fivN cdFiv 6)), (41, .row 3 1 (0 + 32)), (205, .row 3 1 32)])
      (fun i => i = 0) (fun i => 0) 0 rfl
      ⟨⟨rfl, rfl, rfl, rfl, rfl, rfl, trivial⟩, ⟨rfl, ⟨_, _, rfl, rfl, fun k hk => .inl rfl⟩, rfl, rfl, trivial⟩, rfl, by rw [hX]; simp⟩ ?_
    rintro i rfl
    try dsimp only
    repeat' (first |with_reducible (first |refine zag ?_|refine zaa ?_|refine zaf ?_|refine zac ?_|refine zan ?_|refine zai ?_|refine zao ?_)|refine zab rfl rfl True.intro ?_|refine zak rfl ?_|((first |refine zab rfl rfl ?_ ?_);focus (first |omega|((repeat' refine And.intro ?_ ?_)<;>omega)))|refine zat rfl ?_|fail)
    all_goals first
      | exact ⟨7, by decide, by decide, ⟨rfl, rfl, rfl, trivial⟩, ⟨rfl, ⟨_, _, rfl, rfl, fun k hk => .inl (by rw [zaC hk (by decide)])⟩, rfl, rfl, trivial⟩, rfl, by rw [hX]; simp⟩
      | (exfalso; omega)
      | trace_state
  · rw [show nextFiv 7 = 64 from rfl, show ([D.ah 40 1 32, .gs 41 1 (0 + 32) (catF 0 (chunk 1 []) 32 (natF fivN))] ++ firstFiv 7 ++ [.nilS, .nilS, .nilS, .nilS, .nilS, .gs 205 1 32 (natF ofFiv5), .nilS, .nilS, .nilS, .nilS, .nilS, .nilS, .nilS, .nilS, .nilS, .nilS]) = ([.ah 40 1 32, .gs 41 1 (0 + 32) (catF 0 (chunk 1 []) 32 (natF fivN)), .i .u32 0, .i .u32 0, .i .u32 0, .i .u32 0, .i .u32 0, .i .u32 0, .i .u32 64, .i .u32 0, .i .u32 0, .i .u32 0, .i .u32 0, .i .u32 0, .i .u32 0, .i .u32 0, .i .u32 0, .i .u32 0, .nilS, .nilS, .nilS, .nilS, .nilS, .gs 205 1 32 (natF ofFiv5), .nilS, .nilS, .nilS, .nilS, .nilS, .nilS, .nilS, .nilS, .nilS, .nilS] : List D) from rfl]
    repeat' (first |with_reducible (first |refine zag ?_|refine zaa ?_|refine zaf ?_|refine zac ?_|refine zah ?_|refine zae ?_)|refine zab rfl rfl True.intro ?_|refine zas rfl ?_|((first |refine zab rfl rfl ?_ ?_|refine zax rfl ?_ ?_);focus (first |omega|exact le_ rfl|((repeat' refine And.intro ?_ ?_)<;>omega)|((repeat' refine And.intro ?_ ?_)<;>first |rfl|exact le_ rfl)))|fail)
    refine T.loop hL (fun i : Nat => [(8, .pv 45 0), (11, .i .u32 128), (12, .i .i64 7), (87, .nilS), (88, .i .i64 0), (89, .i .i64 i)]) (fun i => [(45, .var [.ah 40 1 32, .gs 41 1 (0 + 32) (catF 0 (chunk 1 []) 32 (natF fivN)), .i .u32 0, .i .u32 0, .i .u32 0, .i .u32 0, .i .u32 0, .i .u32 0, .i .u32 64, .i .u32 128, .i .u32 0, .i .u32 0, .i .u32 0, .i .u32 0, .i .u32 0, .i .u32 0, .i .u32 0, .i .u32 0, .nilS, .nilS, .nilS, .nilS, .nilS, .gs 205 1 32 (natF ofFiv5), .nilS, .nilS, .nilS, .nilS, .nilS, .nilS, .nilS, .nilS, .nilS, .nilS]), (40, .arr 139 1 32 (bitsAt fivN cdFiv 7)), (41, .row 3 1 (0 + 32)), (205, .row 3 1 32)])
      (fun i => i = 0) (fun i => 0) 0 rfl
      ⟨⟨rfl, rfl, rfl, rfl, rfl, rfl, trivial⟩, ⟨rfl, ⟨_, _, rfl, rfl, fun k hk => .inl rfl⟩, rfl, rfl, trivial⟩, rfl, by rw [hX]; simp⟩ ?_
    rintro i rfl
    try dsimp only
    repeat' (first |with_reducible (first |refine zag ?_|refine zaa ?_|refine zaf ?_|refine zac ?_|refine zan ?_|refine zai ?_|refine zao ?_)|refine zab rfl rfl True.intro ?_|refine zak rfl ?_|((first |refine zab rfl rfl ?_ ?_);focus (first |omega|((repeat' refine And.intro ?_ ?_)<;>omega)))|refine zat rfl ?_|fail)
    all_goals first
      | exact ⟨8, by decide, by decide, ⟨rfl, rfl, rfl, trivial⟩, ⟨rfl, ⟨_, _, rfl, rfl, fun k hk => .inl (by rw [zaC hk (by decide)])⟩, rfl, rfl, trivial⟩, rfl, by rw [hX]; simp⟩
      | (exfalso; omega)
      | trace_state
  · rw [show nextFiv 8 = 128 from rfl, show ([D.ah 40 1 32, .gs 41 1 (0 + 32) (catF 0 (chunk 1 []) 32 (natF fivN))] ++ firstFiv 8 ++ [.nilS, .nilS, .nilS, .nilS, .nilS, .gs 205 1 32 (natF ofFiv5), .nilS, .nilS, .nilS, .nilS, .nilS, .nilS, .nilS, .nilS, .nilS, .nilS]) = ([.ah 40 1 32, .gs 41 1 (0 + 32) (catF 0 (chunk 1 []) 32 (natF fivN)), .i .u32 0, .i .u32 0, .i .u32 0, .i .u32 0, .i .u32 0, .i .u32 0, .i .u32 64, .i .u32 128, .i .u32 0, .i .u32 0, .i .u32 0, .i .u32 0, .i .u32 0, .i .u32 0, .i .u32 0, .i .u32 0, .nilS, .nilS, .nilS, .nilS, .nilS, .gs 205 1 32 (natF ofFiv5), .nilS, .nilS, .nilS, .nilS, .nilS, .nilS, .nilS, .nilS, .nilS, .nilS] : List D) from rfl]
    repeat' (first |with_reducible (first |refine zag ?_|refine zaa ?_|refine zaf ?_|refine zac ?_|refine zah ?_|refine zae ?_)|refine zab rfl rfl True.intro ?_|refine zas rfl ?_|((first |refine zab rfl rfl ?_ ?_|refine zax rfl ?_ ?_);focus (first |omega|exact le_ rfl|((repeat' refine And.intro ?_ ?_)<;>omega)|((repeat' refine And.intro ?_ ?_)<;>first |rfl|exact le_ rfl)))|fail)
    refine T.loop hL (fun i : Nat => [(8, .pv 45 0), (11, .i .u32 256), (12, .i .i64 8), (87, .nilS), (88, .i .i64 0), (89, .i .i64 i)]) (fun i => [(45, .var [.ah 40 1 32, .gs 41 1 (0 + 32) (catF 0 (chunk 1 []) 32 (natF fivN)), .i .u32 0, .i .u32 0, .i .u32 0, .i .u32 0, .i .u32 0, .i .u32 0, .i .u32 64, .i .u32 128, .i .u32 256, .i .u32 0, .i .u32 0, .i .u32 0, .i .u32 0, .i .u32 0, .i .u32 0, .i .u32 0, .nilS, .nilS, .nilS, .nilS, .nilS, .gs 205 1 32 (natF ofFiv5), .nilS, .nilS, .nilS, .nilS, .nilS, .nilS, .nilS, .nilS, .nilS, .nilS]), (40, .arr 139 1 32 (bitsAt fivN cdFiv 8)), (41, .row 3 1 (0 + 32)), (205, .row 3 1 32)])
      (fun i => i = 0) (fun i => 0) 0 rfl
      ⟨⟨rfl, rfl, rfl, rfl, rfl, rfl, trivial⟩, ⟨rfl, ⟨_, _, rfl, rfl, fun k hk => .inl rfl⟩, rfl, rfl, trivial⟩, rfl, by rw [hX]; simp⟩ ?_
    rintro i rfl
    try dsimp only
    repeat' (first |with_reducible (first |refine zag ?_|refine zaa ?_|refine zaf ?_|refine zac ?_|refine zan ?_|refine zai ?_|refine zao ?_)|refine zab rfl rfl True.intro ?_|refine zak rfl ?_|((first |refine zab rfl rfl ?_ ?_);focus (first |omega|((repeat' refine And.intro ?_ ?_)<;>omega)))|refine zat rfl ?_|fail)
    all_goals first
      | exact ⟨9, by decide, by decide, ⟨rfl, rfl, rfl, trivial⟩, ⟨rfl, ⟨_, _, rfl, rfl, fun k hk => .inl (by rw [zaC hk (by decide)])⟩, rfl, rfl, trivial⟩, rfl, by rw [hX]; simp⟩
      | (exfalso; omega)
      | trace_state
  · rw [show nextFiv 9 = 256 from rfl, show ([D.ah 40 1 32, .gs 41 1 (0 + 32) (catF 0 (chunk 1 []) 32 (natF fivN))] ++ firstFiv 9 ++ [.nilS, .nilS, .nilS, .nilS, .nilS, .gs 205 1 32 (natF ofFiv5), .nilS, .nilS, .nilS, .nilS, .nilS, .nilS, .nilS, .nilS, .nilS, .nilS]) = ([.ah 40 1 32, .gs 41 1 (0 + 32) (catF 0 (chunk 1 []) 32 (natF fivN)), .i .u32 0, .i .u32 0, .i .u32 0, .i .u32 0, .i .u32 0, .i .u32 0, .i .u32 64, .i .u32 128, .i .u32 256, .i .u32 0, .i .u32 0, .i .u32 0, .i .u32 0, .i .u32 0, .i .u32 0, .i .u32 0, .nilS, .nilS, .nilS, .nilS, .nilS, .gs 205 1 32 (natF ofFiv5), .nilS, .nilS, .nilS, .nilS, .nilS, .nilS, .nilS, .nilS, .nilS, .nilS] : List D) from rfl]
    repeat' (first |with_reducible (first |refine zag ?_|refine zaa ?_|refine zaf ?_|refine zac ?_|refine zah ?_|refine zae ?_)|refine zab rfl rfl True.intro ?_|refine zas rfl ?_|((first |refine zab rfl rfl ?_ ?_|refine zax rfl ?_ ?_);focus (first |omega|exact le_ rfl|((repeat' refine And.intro ?_ ?_)<;>omega)|((repeat' refine And.intro ?_ ?_)<;>first |rfl|exact le_ rfl)))|fail)
    refine T.loop hL (fun i : Nat => [(8, .pv 45 0), (11, .i .u32 512), (12, .i .i64 9), (87, .nilS), (88, .i .i64 0), (89, .i .i64 i)]) (fun i => [(45, .var [.ah 40 1 32, .gs 41 1 (0 + 32) (catF 0 (chunk 1 []) 32 (natF fivN)), .i .u32 0, .i .u32 0, .i .u32 0, .i .u32 0, .i .u32 0, .i .u32 0, .i .u32 64, .i .u32 128, .i .u32 256, .i .u32 512, .i .u32 0, .i .u32 0, .i .u32 0, .i .u32 0, .i .u32 0, .i .u32 0, .nilS, .nilS, .nilS, .nilS, .nilS, .gs 205 1 32 (natF ofFiv5), .nilS, .nilS, .nilS, .nilS, .nilS, .nilS, .nilS, .nilS, .nilS, .nilS]), (40, .arr 139 1 32 (bitsAt fivN cdFiv 9)), (41, .row 3 1 (0 + 32)), (205, .row 3 1 32)])
      (fun i => i = 0) (fun i => 0) 0 rfl
      ⟨⟨rfl, rfl, rfl, rfl, rfl, rfl, trivial⟩, ⟨rfl, ⟨_, _, rfl, rfl, fun k hk => .inl rfl⟩, rfl, rfl, trivial⟩, rfl, by rw [hX]; simp⟩ ?_
    rintro i rfl
    try dsimp only
    repeat' (first |with_reducible (first |refine zag ?_|refine zaa ?_|refine zaf ?_|refine zac ?_|refine zan ?_|refine zai ?_|refine zao ?_)|refine zab rfl rfl True.intro ?_|refine zak rfl ?_|((first |refine zab rfl rfl ?_ ?_);focus (first |omega|((repeat' refine And.intro ?_ ?_)<;>omega)))|refine zat rfl ?_|fail)
    all_goals first
      | exact ⟨10, by decide, by decide, ⟨rfl, rfl, rfl, trivial⟩, ⟨rfl, ⟨_, _, rfl, rfl, fun k hk => .inl (by rw [zaC hk (by decide)])⟩, rfl, rfl, trivial⟩, rfl, by rw [hX]; simp⟩
      | (exfalso; omega)
      | trace_state
  · rw [show nextFiv 10 = 512 from rfl, show ([D.ah 40 1 32, .gs 41 1 (0 + 32) (catF 0 (chunk 1 []) 32 (natF fivN))] ++ firstFiv 10 ++ [.nilS, .nilS, .nilS, .nilS, .nilS, .gs 205 1 32 (natF ofFiv5), .nilS, .nilS, .nilS, .nilS, .nilS, .nilS, .nilS, .nilS, .nilS, .nilS]) = ([.ah 40 1 32, .gs 41 1 (0 + 32) (catF 0 (chunk 1 []) 32 (natF fivN)), .i .u32 0, .i .u32 0, .i .u32 0, .i .u32 0, .i .u32 0, .i .u32 0, .i .u32 64, .i .u32 128, .i .u32 256, .i .u32 512, .i .u32 0, .i .u32 0, .i .u32 0, .i .u32 0, .i .u32 0, .i .u32 0, .nilS, .nilS, .nilS, .nilS, .nilS, .gs 205 1 32 (natF ofFiv5), .nilS, .nilS, .nilS, .nilS, .nilS, .nilS, .nilS, .nilS, .nilS, .nilS] : List D) from rfl]
    repeat' (first |with_reducible (first |refine zag ?_|refine zaa ?_|refine zaf ?_|refine zac ?_|refine zah ?_|refine zae ?_)|refine zab rfl rfl True.intro ?_|refine zas rfl ?_|((first |refine zab rfl rfl ?_ ?_|refine zax rfl ?_ ?_);focus (first |omega|exact le_ rfl|((repeat' refine And.intro ?_ ?_)<;>omega)|((repeat' refine And.intro ?_ ?_)<;>first |rfl|exact le_ rfl)))|fail)
    refine T.loop hL (fun i : Nat => [(8, .pv 45 0), (11, .i .u32 1024), (12, .i .i64 10), (87, .nilS), (88, .i .i64 0), (89, .i .i64 i)]) (fun i => [(45, .var [.ah 40 1 32, .gs 41 1 (0 + 32) (catF 0 (chunk 1 []) 32 (natF fivN)), .i .u32 0, .i .u32 0, .i .u32 0, .i .u32 0, .i .u32 0, .i .u32 0, .i .u32 64, .i .u32 128, .i .u32 256, .i .u32 512, .i .u32 1024, .i .u32 0, .i .u32 0, .i .u32 0, .i .u32 0, .i .u32 0, .nilS, .nilS, .nilS, .nilS, .nilS, .gs 205 1 32 (natF ofFiv5), .nilS, .nilS, .nilS, .nilS, .nilS, .nilS, .nilS, .nilS, .nilS, .nilS]), (40, .arr 139 1 32 (bitsAt fivN cdFiv 10)), (41, .row 3 1 (0 + 32)), (205, .row 3 1 32)])
      (fun i => i = 0) (fun i => 0) 0 rfl
      ⟨⟨rfl, rfl, rfl, rfl, rfl, rfl, trivial⟩, ⟨rfl, ⟨_, _, rfl, rfl, fun k hk => .inl rfl⟩, rfl, rfl, trivial⟩, rfl, by rw [hX]; simp⟩ ?_
    rintro i rfl
    try dsimp only
    repeat' (first |with_reducible (first |refine zag ?_|refine zaa ?_|refine zaf ?_|refine zac ?_|refine zan ?_|refine zai ?_|refine zao ?_)|refine zab rfl rfl True.intro ?_|refine zak rfl ?_|((first |refine zab rfl rfl ?_ ?_);focus (first |omega|((repeat' refine And.intro ?_ ?_)<;>omega)))|refine zat rfl ?_|fail)
    all_goals first
      | exact ⟨11, by decide, by decide, ⟨rfl, rfl, rfl, trivial⟩, ⟨rfl, ⟨_, _, rfl, rfl, fun k hk => .inl (by rw [zaC hk (by decide)])⟩, rfl, rfl, trivial⟩, rfl, by rw [hX]; simp⟩
      | (exfalso; omega)
      | trace_state
  · rw [show nextFiv 11 = 1024 from rfl, show ([D.ah 40 1 32, .gs 41 1 (0 + 32) (catF 0 (chunk 1 []) 32 (natF fivN))] ++ firstFiv 11 ++ [.nilS, .nilS, .nilS, .nilS, .nilS, .gs 205 1 32 (natF ofFiv5), .nilS, .nilS, .nilS, .nilS, .nilS, .nilS, .nilS, .nilS, .nilS, .nilS]) = ([.ah 40 1 32, .gs 41 1 (0 + 32) (catF 0 (chunk 1 []) 32 (natF fivN)), .i .u32 0, .i .u32 0, .i .u32 0, .i .u32 0, .i .u32 0, .i .u32 0, .i .u32 64, .i .u32 128, .i .u32 256, .i .u32 512, .i .u32 1024, .i .u32 0, .i .u32 0, .i .u32 0, .i .u32 0, .i .u32 0, .nilS, .nilS, .nilS, .nilS, .nilS, .gs 205 1 32 (natF ofFiv5), .nilS, .nilS, .nilS, .nilS, .nilS, .nilS, .nilS, .nilS, .nilS, .nilS] : List D) from rfl]
    repeat' (first |with_reducible (first |refine zag ?_|refine zaa ?_|refine zaf ?_|refine zac ?_|refine zah ?_|refine zae ?_)|refine zab rfl rfl True.intro ?_|refine zas rfl ?_|((first |refine zab rfl rfl ?_ ?_|refine zax rfl ?_ ?_);focus (first |omega|exact le_ rfl|((repeat' refine And.intro ?_ ?_)<;>omega)|((repeat' refine And.intro ?_ ?_)<;>first |rfl|exact le_ rfl)))|fail)
    refine T.loop hL (fun i : Nat => [(8, .pv 45 0), (11, .i .u32 2048), (12, .i .i64 11), (87, .nilS), (88, .i .i64 0), (89, .i .i64 i)]) (fun i => [(45, .var [.ah 40 1 32, .gs 41 1 (0 + 32) (catF 0 (chunk 1 []) 32 (natF fivN)), .i .u32 0, .i .u32 0, .i .u32 0, .i .u32 0, .i .u32 0, .i .u32 0, .i .u32 64, .i .u32 128, .i .u32 256, .i .u32 512, .i .u32 1024, .i .u32 2048, .i .u32 0, .i .u32 0, .i .u32 0, .i .u32 0, .nilS, .nilS, .nilS, .nilS, .nilS, .gs 205 1 32 (natF ofFiv5), .nilS, .nilS, .nilS, .nilS, .nilS, .nilS, .nilS, .nilS, .nilS, .nilS]), (40, .arr 139 1 32 (bitsAt fivN cdFiv 11)), (41, .row 3 1 (0 + 32)), (205, .row 3 1 32)])
      (fun i => i = 0) (fun i => 0) 0 rfl
      ⟨⟨rfl, rfl, rfl, rfl, rfl, rfl, trivial⟩, ⟨rfl, ⟨_, _, rfl, rfl, fun k hk => .inl rfl⟩, rfl, rfl, trivial⟩, rfl, by rw [hX]; simp⟩ ?_
    rintro i rfl
    try dsimp only
    repeat' (first |with_reducible (first |refine zag ?_|refine zaa ?_|refine zaf ?_|refine zac ?_|refine zan ?_|refine zai ?_|refine zao ?_)|refine zab rfl rfl True.intro ?_|refine zak rfl ?_|((first |refine zab rfl rfl ?_ ?_);focus (first |omega|((repeat' refine And.intro ?_ ?_)<;>omega)))|refine zat rfl ?_|fail)
    all_goals first
      | exact ⟨12, by decide, by decide, ⟨rfl, rfl, rfl, trivial⟩, ⟨rfl, ⟨_, _, rfl, rfl, fun k hk => .inl (by rw [zaC hk (by decide)])⟩, rfl, rfl, trivial⟩, rfl, by rw [hX]; simp⟩
      | (exfalso; omega)
      | trace_state
  · rw [show nextFiv 12 = 2048 from rfl, show ([D.ah 40 1 32, .gs 41 1 (0 + 32) (catF 0 (chunk 1 []) 32 (natF fivN))] ++ firstFiv 12 ++ [.nilS, .nilS, .nilS, .nilS, .nilS, .gs 205 1 32 (natF ofFiv5), .nilS, .nilS, .nilS, .nilS, .nilS, .nilS, .nilS, .nilS, .nilS, .nilS]) = ([.ah 40 1 32, .gs 41 1 (0 + 32) (catF 0 (chunk 1 []) 32 (natF fivN)), .i .u32 0, .i .u32 0, .i .u32 0, .i .u32 0, .i .u32 0, .i .u32 0, .i .u32 64, .i .u32 128, .i .u32 256, .i .u32 512, .i .u32 1024, .i .u32 2048, .i .u32 0, .i .u32 0, .i .u32 0, .i .u32 0, .nilS, .nilS, .nilS, .nilS, .nilS, .gs 205 1 32 (natF ofFiv5), .nilS, .nilS, .nilS, .nilS, .nilS, .nilS, .nilS, .nilS, .nilS, .nilS] : List D) from rfl]
    repeat' (first |with_reducible (first |refine zag ?_|refine zaa ?_|refine zaf ?_|refine zac ?_|refine zah ?_|refine zae ?_)|refine zab rfl rfl True.intro ?_|refine zas rfl ?_|((first |refine zab rfl rfl ?_ ?_|refine zax rfl ?_ ?_);focus (first |omega|exact le_ rfl|((repeat' refine And.intro ?_ ?_)<;>omega)|((repeat' refine And.intro ?_ ?_)<;>first |rfl|exact le_ rfl)))|fail)
    refine T.loop hL (fun i : Nat => [(8, .pv 45 0), (11, .i .u32 4096), (12, .i .i64 12), (87, .nilS), (88, .i .i64 0), (89, .i .i64 i)]) (fun i => [(45, .var [.ah 40 1 32, .gs 41 1 (0 + 32) (catF 0 (chunk 1 []) 32 (natF fivN)), .i .u32 0, .i .u32 0, .i .u32 0, .i .u32 0, .i .u32 0, .i .u32 0, .i .u32 64, .i .u32 128, .i .u32 256, .i .u32 512, .i .u32 1024, .i .u32 2048, .i .u32 4096, .i .u32 0, .i .u32 0, .i .u32 0, .nilS, .nilS, .nilS, .nilS, .nilS, .gs 205 1 32 (natF ofFiv5), .nilS, .nilS, .nilS, .nilS, .nilS, .nilS, .nilS, .nilS, .nilS, .nilS]), (40, .arr 139 1 32 (bitsAt fivN cdFiv 12)), (41, .row 3 1 (0 + 32)), (205, .row 3 1 32)])
      (fun i => i = 0) (fun i => 0) 0 rfl
      ⟨⟨rfl, rfl, rfl, rfl, rfl, rfl, trivial⟩, ⟨rfl, ⟨_, _, rfl, rfl, fun k hk => .inl rfl⟩, rfl, rfl, trivial⟩, rfl, by rw [hX]; simp⟩ ?_
    rintro i rfl
    try dsimp only
    repeat' (first |with_reducible (first |refine zag ?_|refine zaa ?_|refine zaf ?_|refine zac ?_|refine zan ?_|refine zai ?_|refine zao ?_)|refine zab rfl rfl True.intro ?_|refine zak rfl ?_|((first |refine zab rfl rfl ?_ ?_);focus (first |omega|((repeat' refine And.intro ?_ ?_)<;>omega)))|refine zat rfl ?_|fail)
    all_goals first
      | exact ⟨13, by decide, by decide, ⟨rfl, rfl, rfl, trivial⟩, ⟨rfl, ⟨_, _, rfl, rfl, fun k hk => .inl (by rw [zaC hk (by decide)])⟩, rfl, rfl, trivial⟩, rfl, by rw [hX]; simp⟩
      | (exfalso; omega)
      | trace_state
  · rw [show nextFiv 13 = 4096 from rfl, show ([D.ah 40 1 32, .gs 41 1 (0 + 32) (catF 0 (chunk 1 []) 32 (natF fivN))] ++ firstFiv 13 ++ [.nilS, .nilS, .nilS, .nilS, .nilS, .gs 205 1 32 (natF ofFiv5), .nilS, .nilS, .nilS, .nilS, .nilS, .nilS, .nilS, .nilS, .nilS, .nilS]) = ([.ah 40 1 32, .gs 41 1 (0 + 32) (catF 0 (chunk 1 []) 32 (natF fivN)), .i .u32 0, .i .u32 0, .i .u32 0, .i .u32 0, .i .u32 0, .i .u32 0, .i .u32 64, .i .u32 128, .i .u32 256, .i .u32 512, .i .u32 1024, .i .u32 2048, .i .u32 4096, .i .u32 0, .i .u32 0, .i .u32 0, .nilS, .nilS, .nilS, .nilS, .nilS, .gs 205 1 32 (natF ofFiv5), .nilS, .nilS, .nilS, .nilS, .nilS, .nilS, .nilS, .nilS, .nilS, .nilS] : List D) from rfl]
    repeat' (first |with_reducible (first |refine zag ?_|refine zaa ?_|refine zaf ?_|refine zac ?_|refine zah ?_|refine zae ?_)|refine zab rfl rfl True.intro ?_|refine zas rfl ?_|((first |refine zab rfl rfl ?_ ?_|refine zax rfl ?_ ?_);focus (first |omega|exact le_ rfl|((repeat' refine And.intro ?_ ?_)<;>omega)|((repeat' refine And.intro ?_ ?_)<;>first |rfl|exact le_ rfl)))|fail)
    refine T.loop hL (fun i : Nat => [(8, .pv 45 0), (11, .i .u32 8192), (12, .i .i64 13), (87, .nilS), (88, .i .i64 0), (89, .i .i64 i)]) (fun i => [(45, .var [.ah 40 1 32, .gs 41 1 (0 + 32) (catF 0 (chunk 1 []) 32 (natF fivN)), .i .u32 0, .i .u32 0, .i .u32 0, .i .u32 0, .i .u32 0, .i .u32 0, .i .u32 64, .i .u32 128, .i .u32 256, .i .u32 512, .i .u32 1024, .i .u32 2048, .i .u32 4096, .i .u32 8192, .i .u32 0, .i .u32 0, .nilS, .nilS, .nilS, .nilS, .nilS, .gs 205 1 32 (natF ofFiv5), .nilS, .nilS, .nilS, .nilS, .nilS, .nilS, .nilS, .nilS, .nilS, .nilS]), (40, .arr 139 1 32 (bitsAt fivN cdFiv 13)), (41, .row 3 1 (0 + 32)), (205, .row 3 1 32)])
      (fun i => i = 0) (fun i => 0) 0 rfl
      ⟨⟨rfl, rfl, rfl, rfl, rfl, rfl, trivial⟩, ⟨rfl, ⟨_, _, rfl, rfl, fun k hk => .inl rfl⟩, rfl, rfl, trivial⟩, rfl, by rw [hX]; simp⟩ ?_
    rintro i rfl
    try dsimp only
    repeat' (first |with_reducible (first |refine zag ?_|refine zaa ?_|refine zaf ?_|refine zac ?_|refine zan ?_|refine zai ?_|refine zao ?_)|refine zab rfl rfl True.intro ?_|refine zak rfl ?_|((first |refine zab rfl rfl ?_ ?_);focus (first |omega|((repeat' refine And.intro ?_ ?_)<;>omega)))|refine zat rfl ?_|fail)
    all_goals first
      | exact ⟨14, by decide, by decide, ⟨rfl, rfl, rfl, trivial⟩, ⟨rfl, ⟨_, _, rfl, rfl, fun k hk => .inl (by rw [zaC hk (by decide)])⟩, rfl, rfl, trivial⟩, rfl, by rw [hX]; simp⟩
      | (exfalso; omega)
      | trace_state
  · rw [show nextFiv 14 = 8192 from rfl, show ([D.ah 40 1 32, .gs 41 1 (0 + 32) (catF 0 (chunk 1 []) 32 (natF fivN))] ++ firstFiv 14 ++ [.nilS, .nilS, .nilS, .nilS, .nilS, .gs 205 1 32 (natF ofFiv5), .nilS, .nilS, .nilS, .nilS, .nilS, .nilS, .nilS, .nilS, .nilS, .nilS]) = ([.ah 40 1 32, .gs 41 1 (0 + 32) (catF 0 (chunk 1 []) 32 (natF fivN)), .i .u32 0, .i .u32 0, .i .u32 0, .i .u32 0, .i .u32 0, .i .u32 0, .i .u32 64, .i .u32 128, .i .u32 256, .i .u32 512, .i .u32 1024, .i .u32 2048, .i .u32 4096, .i .u32 8192, .i .u32 0, .i .u32 0, .nilS, .nilS, .nilS, .nilS, .nilS, .gs 205 1 32 (natF ofFiv5), .nilS, .nilS, .nilS, .nilS, .nilS, .nilS, .nilS, .nilS, .nilS, .nilS] : List D) from rfl]
    repeat' (first |with_reducible (first |refine zag ?_|refine zaa ?_|refine zaf ?_|refine zac ?_|refine zah ?_|refine zae ?_)|refine zab rfl rfl True.intro ?_|refine zas rfl ?_|((first |refine zab rfl rfl ?_ ?_|refine zax rfl ?_ ?_);focus (first |omega|exact le_ rfl|((repeat' refine And.intro ?_ ?_)<;>omega)|((repeat' refine And.intro ?_ ?_)<;>first |rfl|exact le_ rfl)))|fail)
    refine T.loop hL (fun i : Nat => [(8, .pv 45 0), (11, .i .u32 16384), (12, .i .i64 14), (87, .nilS), (88, .i .i64 0), (89, .i .i64 i)]) (fun i => [(45, .var [.ah 40 1 32, .gs 41 1 (0 + 32) (catF 0 (chunk 1 []) 32 (natF fivN)), .i .u32 0, .i .u32 0, .i .u32 0, .i .u32 0, .i .u32 0, .i .u32 0, .i .u32 64, .i .u32 128, .i .u32 256, .i .u32 512, .i .u32 1024, .i .u32 2048, .i .u32 4096, .i .u32 8192, .i .u32 16384, .i .u32 0, .nilS, .nilS, .nilS, .nilS, .nilS, .gs 205 1 32 (natF ofFiv5), .nilS, .nilS, .nilS, .nilS, .nilS, .nilS, .nilS, .nilS, .nilS, .nilS]), (40, .arr 139 1 32 (bitsAt fivN cdFiv 14)), (41, .row 3 1 (0 + 32)), (205, .row 3 1 32)])
      (fun i => i = 0) (fun i => 0) 0 rfl
      ⟨⟨rfl, rfl, rfl, rfl, rfl, rfl, trivial⟩, ⟨rfl, ⟨_, _, rfl, rfl, fun k hk => .inl rfl⟩, rfl, rfl, trivial⟩, rfl, by rw [hX]; simp⟩ ?_
    rintro i rfl
    try dsimp only
    repeat' (first |with_reducible (first |refine zag ?_|refine zaa ?_|refine zaf ?_|refine zac ?_|refine zan ?_|refine zai ?_|refine zao ?_)|refine zab rfl rfl True.intro ?_|refine zak rfl ?_|((first |refine zab rfl rfl ?_ ?_);focus (first |omega|((repeat' refine And.intro ?_ ?_)<;>omega)))|refine zat rfl ?_|fail)
    all_goals first
      | exact ⟨15, by decide, by decide, ⟨rfl, rfl, rfl, trivial⟩, ⟨rfl, ⟨_, _, rfl, rfl, fun k hk => .inl (by rw [zaC hk (by decide)])⟩, rfl, rfl, trivial⟩, rfl, by rw [hX]; simp⟩
      | (exfalso; omega)
      | trace_state
  · rw [show nextFiv 15 = 16384 from rfl, show ([D.ah 40 1 32, .gs 41 1 (0 + 32) (catF 0 (chunk 1 []) 32 (natF fivN))] ++ firstFiv 15 ++ [.nilS, .nilS, .nilS, .nilS, .nilS, .gs 205 1 32 (natF ofFiv5), .nilS, .nilS, .nilS, .nilS, .nilS, .nilS, .nilS, .nilS, .nilS, .nilS]) = ([.ah 40 1 32, .gs 41 1 (0 + 32) (catF 0 (chunk 1 []) 32 (natF fivN)), .i .u32 0, .i .u32 0, .i .u32 0, .i .u32 0, .i .u32 0, .i .u32 0, .i .u32 64, .i .u32 128, .i .u32 256, .i .u32 512, .i .u32 1024, .i .u32 2048, .i .u32 4096, .i .u32 8192, .i .u32 16384, .i .u32 0, .nilS, .nilS, .nilS, .nilS, .nilS, .gs 205 1 32 (natF ofFiv5), .nilS, .nilS, .nilS, .nilS, .nilS, .nilS, .nilS, .nilS, .nilS, .nilS] : List D) from rfl]
    repeat' (first |with_reducible (first |refine zag ?_|refine zaa ?_|refine zaf ?_|refine zac ?_|refine zah ?_|refine zae ?_)|refine zab rfl rfl True.intro ?_|refine zas rfl ?_|((first |refine zab rfl rfl ?_ ?_|refine zax rfl ?_ ?_);focus (first |omega|exact le_ rfl|((repeat' refine And.intro ?_ ?_)<;>omega)|((repeat' refine And.intro ?_ ?_)<;>first |rfl|exact le_ rfl)))|fail)
    refine T.loop hL (fun i : Nat => [(8, .pv 45 0), (11, .i .u32 32768), (12, .i .i64 15), (87, .nilS), (88, .i .i64 0), (89, .i .i64 i)]) (fun i => [(45, .var [.ah 40 1 32, .gs 41 1 (0 + 32) (catF 0 (chunk 1 []) 32 (natF fivN)), .i .u32 0, .i .u32 0, .i .u32 0, .i .u32 0, .i .u32 0, .i .u32 0, .i .u32 64, .i .u32 128, .i .u32 256, .i .u32 512, .i .u32 1024, .i .u32 2048, .i .u32 4096, .i .u32 8192, .i .u32 16384, .i .u32 32768, .nilS, .nilS, .nilS, .nilS, .nilS, .gs 205 1 32 (natF ofFiv5), .nilS, .nilS, .nilS, .nilS, .nilS, .nilS, .nilS, .nilS, .nilS, .nilS]), (40, .arr 139 1 32 (bitsAt fivN cdFiv 15)), (41, .row 3 1 (0 + 32)), (205, .row 3 1 32)])
      (fun i => i = 0) (fun i => 0) 0 rfl
      ⟨⟨rfl, rfl, rfl, rfl, rfl, rfl, trivial⟩, ⟨rfl, ⟨_, _, rfl, rfl, fun k hk => .inl rfl⟩, rfl, rfl, trivial⟩, rfl, by rw [hX]; simp⟩ ?_
    rintro i rfl
    try dsimp only
    repeat' (first |with_reducible (first |refine zag ?_|refine zaa ?_|refine zaf ?_|refine zac ?_|refine zan ?_|refine zai ?_|refine zao ?_)|refine zab rfl rfl True.intro ?_|refine zak rfl ?_|((first |refine zab rfl rfl ?_ ?_);focus (first |omega|((repeat' refine And.intro ?_ ?_)<;>omega)))|refine zat rfl ?_|fail)
    all_goals first
      | exact ⟨16, by decide, by decide, ⟨rfl, rfl, rfl, trivial⟩, ⟨rfl, ⟨_, _, rfl, rfl, fun k hk => .inl (by rw [zaC hk (by decide)])⟩, rfl, rfl, trivial⟩, rfl, by rw [hX]; simp⟩
      | (exfalso; omega)
      | trace_state
  · rw [show nextFiv 16 = 32768 from rfl, show ([D.ah 40 1 32, .gs 41 1 (0 + 32) (catF 0 (chunk 1 []) 32 (natF fivN))] ++ firstFiv 16 ++ [.nilS, .nilS, .nilS, .nilS, .nilS, .gs 205 1 32 (natF ofFiv5), .nilS, .nilS, .nilS, .nilS, .nilS, .nilS, .nilS, .nilS, .nilS, .nilS]) = ([.ah 40 1 32, .gs 41 1 (0 + 32) (catF 0 (chunk 1 []) 32 (natF fivN)), .i .u32 0, .i .u32 0, .i .u32 0, .i .u32 0, .i .u32 0, .i .u32 0, .i .u32 64, .i .u32 128, .i .u32 256, .i .u32 512, .i .u32 1024, .i .u32 2048, .i .u32 4096, .i .u32 8192, .i .u32 16384, .i .u32 32768, .nilS, .nilS, .nilS, .nilS, .nilS, .gs 205 1 32 (natF ofFiv5), .nilS, .nilS, .nilS, .nilS, .nilS, .nilS, .nilS, .nilS, .nilS, .nilS] : List D) from rfl]
    refine T.freezeV 45 0 40 139 1 32 _ (bitsAt fivN cdFiv 16) rfl rfl rfl ?_
    refine T.weakV 45 _ codeFiv rfl rfl (WCs.get ⟨⟨.refl _, rfl⟩, ⟨zhl _ _, rfl⟩, ⟨.refl _, rfl⟩, ⟨.refl _, rfl⟩, ⟨.refl _, rfl⟩, ⟨.refl _, rfl⟩, ⟨.refl _, rfl⟩, ⟨.refl _, rfl⟩, ⟨.refl _, rfl⟩, ⟨.refl _, rfl⟩, ⟨.refl _, rfl⟩, ⟨.refl _, rfl⟩, ⟨.refl _, rfl⟩, ⟨.refl _, rfl⟩, ⟨.refl _, rfl⟩, ⟨.refl _, rfl⟩, ⟨.refl _, rfl⟩, ⟨.refl _, rfl⟩, ⟨.refl _, rfl⟩, ⟨.refl _, rfl⟩, ⟨.refl _, rfl⟩, ⟨.refl _, rfl⟩, ⟨.refl _, rfl⟩, ⟨.refl _, rfl⟩, ⟨.refl _, rfl⟩, ⟨.refl _, rfl⟩, ⟨.refl _, rfl⟩, ⟨.refl _, rfl⟩, ⟨.refl _, rfl⟩, ⟨.refl _, rfl⟩, ⟨.refl _, rfl⟩, ⟨.refl _, rfl⟩, ⟨.refl _, rfl⟩, ⟨.refl _, rfl⟩, trivial⟩) ?_
    refine T.frzV 8 45 0 codeFiv rfl rfl rfl ?_
    repeat' (first |with_reducible (first |refine zag ?_|refine zaa ?_|refine zaf ?_|refine zac ?_|refine zar ?_|refine zan ?_|refine zao ?_)|refine zab rfl rfl True.intro ?_|refine zak rfl ?_|refine zat rfl ?_|refine zau rfl ?_|fail)
    all_goals first
      | rfl
      | (exfalso; omega)
      | trace_state
end Go.Proofs.YtkkaamhocpmhkaaGreatDoor.Flow
