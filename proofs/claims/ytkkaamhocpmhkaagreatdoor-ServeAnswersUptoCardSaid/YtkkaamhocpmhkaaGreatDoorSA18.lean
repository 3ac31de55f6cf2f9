/- The texts K7, one behind the other. -/
import Derived.Test.YtkkaamhocpmhkaaGreatDoorSA17
namespace Go.Proofs.YtkkaamhocpmhkaaGreatDoor.Flow
open Go
set_option maxRecDepth 100000 in
set_option maxHeartbeats 16000000 in
theorem zhS : Ctr Tryz.prog 201 [.sl 1 288 (natF litN), .b false] (.tu [.rf codeLit 0, .i .i64 0]) := by
  have cK := zeS litN 288 (by decide) (by decide +kernel)
  rw [zmX] at cK
  refine zaE Tryz.func201 rfl Tryz.ntmps201 Tryz.results201 rfl rfl fun X hL hX => ?_
  repeat' (first |refine T.adoptV 45 25 207 3 1 _ (natF ofLit7) rfl rfl rfl ?_|refine T.adoptV 45 26 208 3 1 _ (natF ofLit8) rfl rfl rfl ?_|refine T.adoptV 45 27 209 3 1 _ (natF ofLit9) rfl rfl rfl ?_|refine zaj (f := 238) rfl rfl Tryz.call238 rfl cK ?_|with_reducible (first |refine zag ?_|refine zaa ?_|refine zaf ?_|refine zac ?_|refine zah ?_|refine zae ?_|refine zai ?_|refine zaH ?_)|refine zab rfl rfl True.intro ?_|refine zay rfl rfl rfl ?_|refine zcr rfl rfl rfl ?_|refine zam rfl rfl rfl rfl True.intro ?_|refine zak rfl ?_|((first |refine zaw rfl rfl ?_ ?_);focus (first |((repeat' refine And.intro ?_ ?_)<;>omega)|((repeat' refine And.intro ?_ ?_)<;>first |omega|rfl)))|with_reducible refine ⟨by kernel_rfl, ?_⟩|fail)
  refine T.loop hL (fun x : Nat × Nat × Nat × Nat => [(8, .pv 45 0), (46, .sl 1 288 (natF litN)), (47, .i .i64 288), (48, .i .i64 x.1)]) (fun x => [(45, .var [.ah 40 1 288, .gs 41 1 (0 + 288) (catF 0 (chunk 1 []) 288 (natF litN)), .i .u32 0, .i .u32 0, .i .u32 0, .i .u32 0, .i .u32 0, .i .u32 0, .i .u32 0, .i .u32 0, .i .u32 0, .i .u32 0, .i .u32 0, .i .u32 0, .i .u32 0, .i .u32 0, .i .u32 0, .i .u32 0, .nilS, .nilS, .nilS, .nilS, .nilS, .nilS, .nilS, .gs 207 1 x.2.1 (natF ofLit7), .gs 208 1 x.2.2.1 (natF ofLit8), .gs 209 1 x.2.2.2 (natF ofLit9), .nilS, .nilS, .nilS, .nilS, .nilS, .nilS]), (40, .arr 139 1 288 (fun _ => [.i .u32 0])), (41, .row 3 1 (0 + 288)), (207, .row 3 1 x.2.1), (208, .row 3 1 x.2.2.1), (209, .row 3 1 x.2.2.2)])
    (fun x => x.1 ≤ 288 ∧ x.2.1 = cLit7 x.1 ∧ x.2.2.1 = cLit8 x.1 ∧ x.2.2.2 = cLit9 x.1) (fun x => 288 - x.1) (0, 0, 0, 0) ⟨Nat.zero_le _, rfl, rfl, rfl⟩
    ⟨⟨rfl, rfl, rfl, rfl, trivial⟩, ⟨rfl, ⟨_, _, rfl, rfl, fun k hk => .inl rfl⟩, rfl, rfl, rfl, rfl, trivial⟩, rfl, by rw [hX]; simp⟩ ?_
  rintro ⟨n, a7, a8, a9⟩ ⟨g1, e7, e8, e9⟩
  try dsimp only at g1 e7 e8 e9 ⊢
  have hnat : (n : Int).toNat = n := Int.toNat_natCast n
  by_cases hn : n < 288
  · have hn' : (n : Int) < 288 := by omega
    by_cases q7 : litN n = 7
    · have hsz : (D.i .i64 ((litN (n : Int).toNat : Nat) : Int)).shut = D.i .i64 7 := by rw [hnat, q7]; rfl
      obtain ⟨h1, h2, h3, k8, k9⟩ := stepLit7 hn q7
      have hv := congrArg (fun d => some (Own.var [.ah 40 1 288, .gs 41 1 (0 + 288) (catF 0 (chunk 1 []) 288 (natF litN)), .i .u32 0, .i .u32 0, .i .u32 0, .i .u32 0, .i .u32 0, .i .u32 0, .i .u32 0, .i .u32 0, .i .u32 0, .i .u32 0, .i .u32 0, .i .u32 0, .i .u32 0, .i .u32 0, .i .u32 0, .i .u32 0, .nilS, .nilS, .nilS, .nilS, .nilS, .nilS, .nilS, d, .gs 208 1 a8 (natF ofLit8), .gs 209 1 a9 (natF ofLit9), .nilS, .nilS, .nilS, .nilS, .nilS, .nilS])) (zcu 207 a7 ofLit7 (chunk 1 [.i .i64 (n : Int)]) (n : Int) rfl (by rw [e7]; exact congrArg (fun q : Nat => (q : Int)) h1))
      have hb : a7 ≤ 24 := by rw [e7]; exact h3
      repeat' (first |refine T.tellS 10 (.i .i64 ((litN (n : Int).toNat : Nat) : Int)) (.i .i64 7) rfl (Weak.of_eq hsz) ?_|with_reducible (first |refine zag ?_|refine zaa ?_|refine zaf ?_|refine zac ?_|refine zah ?_|refine zae ?_|refine zai ?_|refine zaH ?_)|refine zab rfl rfl True.intro ?_|refine zas rfl ?_|((first |refine zad rfl ?_ ?_)<;>intro<;>try (first |(exfalso;omega)))|((first |refine zab rfl rfl ?_ ?_|refine zaw rfl rfl ?_ ?_|refine zax rfl ?_ ?_);focus (first |omega|exact le_ rfl|((repeat' refine And.intro ?_ ?_)<;>omega)|((repeat' refine And.intro ?_ ?_)<;>first |omega|rfl|exact le_ rfl)))|with_reducible refine ⟨by kernel_rfl, ?_⟩|fail)
      all_goals first
        | exact ⟨(n + 1, a7 + 1, a8, a9), ⟨by dsimp only; omega, by dsimp only; rw [e7, h2], by dsimp only; rw [e8, k8], by dsimp only; rw [e9, k9]⟩, by dsimp only; omega, ⟨rfl, rfl, rfl, rfl, trivial⟩, ⟨hv, ⟨_, _, rfl, rfl, fun k hk => .inl rfl⟩, rfl, rfl, rfl, rfl, trivial⟩, rfl, by rw [hX]; simp⟩
        | (exfalso; omega)
        | trace_state
    by_cases q8 : litN n = 8
    · have hsz : (D.i .i64 ((litN (n : Int).toNat : Nat) : Int)).shut = D.i .i64 8 := by rw [hnat, q8]; rfl
      obtain ⟨h1, h2, h3, k7, k9⟩ := stepLit8 hn q8
      have hv := congrArg (fun d => some (Own.var [.ah 40 1 288, .gs 41 1 (0 + 288) (catF 0 (chunk 1 []) 288 (natF litN)), .i .u32 0, .i .u32 0, .i .u32 0, .i .u32 0, .i .u32 0, .i .u32 0, .i .u32 0, .i .u32 0, .i .u32 0, .i .u32 0, .i .u32 0, .i .u32 0, .i .u32 0, .i .u32 0, .i .u32 0, .i .u32 0, .nilS, .nilS, .nilS, .nilS, .nilS, .nilS, .nilS, .gs 207 1 a7 (natF ofLit7), d, .gs 209 1 a9 (natF ofLit9), .nilS, .nilS, .nilS, .nilS, .nilS, .nilS])) (zcu 208 a8 ofLit8 (chunk 1 [.i .i64 (n : Int)]) (n : Int) rfl (by rw [e8]; exact congrArg (fun q : Nat => (q : Int)) h1))
      have hb : a8 ≤ 152 := by rw [e8]; exact h3
      repeat' (first |refine T.tellS 10 (.i .i64 ((litN (n : Int).toNat : Nat) : Int)) (.i .i64 8) rfl (Weak.of_eq hsz) ?_|with_reducible (first |refine zag ?_|refine zaa ?_|refine zaf ?_|refine zac ?_|refine zah ?_|refine zae ?_|refine zai ?_|refine zaH ?_)|refine zab rfl rfl True.intro ?_|refine zas rfl ?_|((first |refine zad rfl ?_ ?_)<;>intro<;>try (first |(exfalso;omega)))|((first |refine zab rfl rfl ?_ ?_|refine zaw rfl rfl ?_ ?_|refine zax rfl ?_ ?_);focus (first |omega|exact le_ rfl|((repeat' refine And.intro ?_ ?_)<;>omega)|((repeat' refine And.intro ?_ ?_)<;>first |omega|rfl|exact le_ rfl)))|with_reducible refine ⟨by kernel_rfl, ?_⟩|fail)
      all_goals first
        | exact ⟨(n + 1, a7, a8 + 1, a9), ⟨by dsimp only; omega, by dsimp only; rw [e7, k7], by dsimp only; rw [e8, h2], by dsimp only; rw [e9, k9]⟩, by dsimp only; omega, ⟨rfl, rfl, rfl, rfl, trivial⟩, ⟨hv, ⟨_, _, rfl, rfl, fun k hk => .inl rfl⟩, rfl, rfl, rfl, rfl, trivial⟩, rfl, by rw [hX]; simp⟩
        | (exfalso; omega)
        | trace_state
    by_cases q9 : litN n = 9
    · have hsz : (D.i .i64 ((litN (n : Int).toNat : Nat) : Int)).shut = D.i .i64 9 := by rw [hnat, q9]; rfl
      obtain ⟨h1, h2, h3, k7, k8⟩ := stepLit9 hn q9
      have hv := congrArg (fun d => some (Own.var [.ah 40 1 288, .gs 41 1 (0 + 288) (catF 0 (chunk 1 []) 288 (natF litN)), .i .u32 0, .i .u32 0, .i .u32 0, .i .u32 0, .i .u32 0, .i .u32 0, .i .u32 0, .i .u32 0, .i .u32 0, .i .u32 0, .i .u32 0, .i .u32 0, .i .u32 0, .i .u32 0, .i .u32 0, .i .u32 0, .nilS, .nilS, .nilS, .nilS, .nilS, .nilS, .nilS, .gs 207 1 a7 (natF ofLit7), .gs 208 1 a8 (natF ofLit8), d, .nilS, .nilS, .nilS, .nilS, .nilS, .nilS])) (zcu 209 a9 ofLit9 (chunk 1 [.i .i64 (n : Int)]) (n : Int) rfl (by rw [e9]; exact congrArg (fun q : Nat => (q : Int)) h1))
      have hb : a9 ≤ 112 := by rw [e9]; exact h3
      repeat' (first |refine T.tellS 10 (.i .i64 ((litN (n : Int).toNat : Nat) : Int)) (.i .i64 9) rfl (Weak.of_eq hsz) ?_|with_reducible (first |refine zag ?_|refine zaa ?_|refine zaf ?_|refine zac ?_|refine zah ?_|refine zae ?_|refine zai ?_|refine zaH ?_)|refine zab rfl rfl True.intro ?_|refine zas rfl ?_|((first |refine zad rfl ?_ ?_)<;>intro<;>try (first |(exfalso;omega)))|((first |refine zab rfl rfl ?_ ?_|refine zaw rfl rfl ?_ ?_|refine zax rfl ?_ ?_);focus (first |omega|exact le_ rfl|((repeat' refine And.intro ?_ ?_)<;>omega)|((repeat' refine And.intro ?_ ?_)<;>first |omega|rfl|exact le_ rfl)))|with_reducible refine ⟨by kernel_rfl, ?_⟩|fail)
      all_goals first
        | exact ⟨(n + 1, a7, a8, a9 + 1), ⟨by dsimp only; omega, by dsimp only; rw [e7, k7], by dsimp only; rw [e8, k8], by dsimp only; rw [e9, h2]⟩, by dsimp only; omega, ⟨rfl, rfl, rfl, rfl, trivial⟩, ⟨hv, ⟨_, _, rfl, rfl, fun k hk => .inl rfl⟩, rfl, rfl, rfl, rfl, trivial⟩, rfl, by rw [hX]; simp⟩
        | (exfalso; omega)
        | trace_state
    exact absurd (someLit hn) (by simp [q7, q8, q9])
  have hn' : ¬ (n : Int) < 288 := by omega
  have : n = 288 := by omega
  subst this
  have e7 : a7 = 24 := e7
  subst e7
  have e8 : a8 = 152 := e8
  subst e8
  have e9 : a9 = 112 := e9
  subst e9
  clear hnat hn g1 cK
  repeat' (first |with_reducible (first |refine zag ?_|refine zaa ?_|refine zaf ?_|refine zac ?_|refine zan ?_|refine zae ?_|refine zao ?_)|refine zab rfl rfl True.intro ?_|refine zak rfl ?_|refine zat rfl ?_|fail)
  refine T.loop hL (fun s : Nat => [(8, .pv 45 0), (11, .i .u32 (nextLit s)), (12, .i .i64 s)]) (fun s => [(45, .var ([.ah 40 1 288, .gs 41 1 (0 + 288) (catF 0 (chunk 1 []) 288 (natF litN))] ++ firstLit s ++ [.nilS, .nilS, .nilS, .nilS, .nilS, .nilS, .nilS, .gs 207 1 24 (natF ofLit7), .gs 208 1 152 (natF ofLit8), .gs 209 1 112 (natF ofLit9), .nilS, .nilS, .nilS, .nilS, .nilS, .nilS])), (40, .arr 139 1 288 (bitsAt litN cdLit s)), (41, .row 3 1 (0 + 288)), (207, .row 3 1 24), (208, .row 3 1 152), (209, .row 3 1 112)])
    (fun s => 1 ≤ s ∧ s ≤ 16) (fun s => 16 - s) 1 ⟨Nat.le_refl _, by decide⟩
    ⟨⟨rfl, rfl, rfl, trivial⟩, ⟨rfl, ⟨_, _, rfl, rfl, fun k hk => .inl (by rw [bits1Lit hk])⟩, rfl, rfl, rfl, rfl, trivial⟩, rfl, by rw [hX]; simp⟩ ?_
  rintro s ⟨s1, s2⟩
  try dsimp only at s1 s2 ⊢
  have hs : s = 1 ∨ s = 2 ∨ s = 3 ∨ s = 4 ∨ s = 5 ∨ s = 6 ∨ s = 7 ∨ s = 8 ∨ s = 9 ∨ s = 10 ∨ s = 11 ∨ s = 12 ∨ s = 13 ∨ s = 14 ∨ s = 15 ∨ s = 16 := by omega
  rcases hs with rfl | rfl | rfl | rfl | rfl | rfl | rfl | rfl | rfl | rfl | rfl | rfl | rfl | rfl | rfl | rfl
  · rw [show nextLit 1 = 0 from rfl, show ([D.ah 40 1 288, .gs 41 1 (0 + 288) (catF 0 (chunk 1 []) 288 (natF litN))] ++ firstLit 1 ++ [.nilS, .nilS, .nilS, .nilS, .nilS, .nilS, .nilS, .gs 207 1 24 (natF ofLit7), .gs 208 1 152 (natF ofLit8), .gs 209 1 112 (natF ofLit9), .nilS, .nilS, .nilS, .nilS, .nilS, .nilS]) = ([.ah 40 1 288, .gs 41 1 (0 + 288) (catF 0 (chunk 1 []) 288 (natF litN)), .i .u32 0, .i .u32 0, .i .u32 0, .i .u32 0, .i .u32 0, .i .u32 0, .i .u32 0, .i .u32 0, .i .u32 0, .i .u32 0, .i .u32 0, .i .u32 0, .i .u32 0, .i .u32 0, .i .u32 0, .i .u32 0, .nilS, .nilS, .nilS, .nilS, .nilS, .nilS, .nilS, .gs 207 1 24 (natF ofLit7), .gs 208 1 152 (natF ofLit8), .gs 209 1 112 (natF ofLit9), .nilS, .nilS, .nilS, .nilS, .nilS, .nilS] : List D) from rfl]
    repeat' (first |with_reducible (first |refine zag ?_|refine zaa ?_|refine zaf ?_|refine zac ?_|refine zah ?_|refine zae ?_)|refine zab rfl rfl True.intro ?_|refine zas rfl ?_|((first |refine zab rfl rfl ?_ ?_|refine zax rfl ?_ ?_);focus (first |omega|exact le_ rfl|((repeat' refine And.intro ?_ ?_)<;>omega)|((repeat' refine And.intro ?_ ?_)<;>first |rfl|exact le_ rfl)))|fail)
    refine T.loop hL (fun i : Nat => [(8, .pv 45 0), (11, .i .u32 0), (12, .i .i64 1), (87, .nilS), (88, .i .i64 0), (89, .i .i64 i)]) (fun i => [(45, .var [.ah 40 1 288, .gs 41 1 (0 + 288) (catF 0 (chunk 1 []) 288 (natF litN)), .i .u32 0, .i .u32 0, .i .u32 0, .i .u32 0, .i .u32 0, .i .u32 0, .i .u32 0, .i .u32 0, .i .u32 0, .i .u32 0, .i .u32 0, .i .u32 0, .i .u32 0, .i .u32 0, .i .u32 0, .i .u32 0, .nilS, .nilS, .nilS, .nilS, .nilS, .nilS, .nilS, .gs 207 1 24 (natF ofLit7), .gs 208 1 152 (natF ofLit8), .gs 209 1 112 (natF ofLit9), .nilS, .nilS, .nilS, .nilS, .nilS, .nilS]), (40, .arr 139 1 288 (bitsAt litN cdLit 1)), (41, .row 3 1 (0 + 288)), (207, .row 3 1 24), (208, .row 3 1 152), (209, .row 3 1 112)])
      (fun i => i = 0) (fun i => 0) 0 rfl
      ⟨⟨rfl, rfl, rfl, rfl, rfl, rfl, trivial⟩, ⟨rfl, ⟨_, _, rfl, rfl, fun k hk => .inl rfl⟩, rfl, rfl, rfl, rfl, trivial⟩, rfl, by rw [hX]; simp⟩ ?_
    rintro i rfl
    try dsimp only
    repeat' (first |with_reducible (first |refine zag ?_|refine zaa ?_|refine zaf ?_|refine zac ?_|refine zan ?_|refine zai ?_|refine zao ?_)|refine zab rfl rfl True.intro ?_|refine zak rfl ?_|((first |refine zab rfl rfl ?_ ?_);focus (first |omega|((repeat' refine And.intro ?_ ?_)<;>omega)))|refine zat rfl ?_|fail)
    all_goals first
      | exact ⟨2, by decide, by decide, ⟨rfl, rfl, rfl, trivial⟩, ⟨rfl, ⟨_, _, rfl, rfl, fun k hk => .inl (by rw [zaG hk (by decide)])⟩, rfl, rfl, rfl, rfl, trivial⟩, rfl, by rw [hX]; simp⟩
      | (exfalso; omega)
      | trace_state
  · rw [show nextLit 2 = 0 from rfl, show ([D.ah 40 1 288, .gs 41 1 (0 + 288) (catF 0 (chunk 1 []) 288 (natF litN))] ++ firstLit 2 ++ [.nilS, .nilS, .nilS, .nilS, .nilS, .nilS, .nilS, .gs 207 1 24 (natF ofLit7), .gs 208 1 152 (natF ofLit8), .gs 209 1 112 (natF ofLit9), .nilS, .nilS, .nilS, .nilS, .nilS, .nilS]) = ([.ah 40 1 288, .gs 41 1 (0 + 288) (catF 0 (chunk 1 []) 288 (natF litN)), .i .u32 0, .i .u32 0, .i .u32 0, .i .u32 0, .i .u32 0, .i .u32 0, .i .u32 0, .i .u32 0, .i .u32 0, .i .u32 0, .i .u32 0, .i .u32 0, .i .u32 0, .i .u32 0, .i .u32 0, .i .u32 0, .nilS, .nilS, .nilS, .nilS, .nilS, .nilS, .nilS, .gs 207 1 24 (natF ofLit7), .gs 208 1 152 (natF ofLit8), .gs 209 1 112 (natF ofLit9), .nilS, .nilS, .nilS, .nilS, .nilS, .nilS] : List D) from rfl]
    repeat' (first |with_reducible (first |refine zag ?_|refine zaa ?_|refine zaf ?_|refine zac ?_|refine zah ?_|refine zae ?_)|refine zab rfl rfl True.intro ?_|refine zas rfl ?_|((first |refine zab rfl rfl ?_ ?_|refine zax rfl ?_ ?_);focus (first |omega|exact le_ rfl|((repeat' refine And.intro ?_ ?_)<;>omega)|((repeat' refine And.intro ?_ ?_)<;>first |rfl|exact le_ rfl)))|fail)
    refine T.loop hL (fun i : Nat => [(8, .pv 45 0), (11, .i .u32 0), (12, .i .i64 2), (87, .nilS), (88, .i .i64 0), (89, .i .i64 i)]) (fun i => [(45, .var [.ah 40 1 288, .gs 41 1 (0 + 288) (catF 0 (chunk 1 []) 288 (natF litN)), .i .u32 0, .i .u32 0, .i .u32 0, .i .u32 0, .i .u32 0, .i .u32 0, .i .u32 0, .i .u32 0, .i .u32 0, .i .u32 0, .i .u32 0, .i .u32 0, .i .u32 0, .i .u32 0, .i .u32 0, .i .u32 0, .nilS, .nilS, .nilS, .nilS, .nilS, .nilS, .nilS, .gs 207 1 24 (natF ofLit7), .gs 208 1 152 (natF ofLit8), .gs 209 1 112 (natF ofLit9), .nilS, .nilS, .nilS, .nilS, .nilS, .nilS]), (40, .arr 139 1 288 (bitsAt litN cdLit 2)), (41, .row 3 1 (0 + 288)), (207, .row 3 1 24), (208, .row 3 1 152), (209, .row 3 1 112)])
      (fun i => i = 0) (fun i => 0) 0 rfl
      ⟨⟨rfl, rfl, rfl, rfl, rfl, rfl, trivial⟩, ⟨rfl, ⟨_, _, rfl, rfl, fun k hk => .inl rfl⟩, rfl, rfl, rfl, rfl, trivial⟩, rfl, by rw [hX]; simp⟩ ?_
    rintro i rfl
    try dsimp only
    repeat' (first |with_reducible (first |refine zag ?_|refine zaa ?_|refine zaf ?_|refine zac ?_|refine zan ?_|refine zai ?_|refine zao ?_)|refine zab rfl rfl True.intro ?_|refine zak rfl ?_|((first |refine zab rfl rfl ?_ ?_);focus (first |omega|((repeat' refine And.intro ?_ ?_)<;>omega)))|refine zat rfl ?_|fail)
    all_goals first
      | exact ⟨3, by decide, by decide, ⟨rfl, rfl, rfl, trivial⟩, ⟨rfl, ⟨_, _, rfl, rfl, fun k hk => .inl (by rw [zaG hk (by decide)])⟩, rfl, rfl, rfl, rfl, trivial⟩, rfl, by rw [hX]; simp⟩
      | (exfalso; omega)
      | trace_state
  · rw [show nextLit 3 = 0 from rfl, show ([D.ah 40 1 288, .gs 41 1 (0 + 288) (catF 0 (chunk 1 []) 288 (natF litN))] ++ firstLit 3 ++ [.nilS, .nilS, .nilS, .nilS, .nilS, .nilS, .nilS, .gs 207 1 24 (natF ofLit7), .gs 208 1 152 (natF ofLit8), .gs 209 1 112 (natF ofLit9), .nilS, .nilS, .nilS, .nilS, .nilS, .nilS]) = ([.ah 40 1 288, .gs 41 1 (0 + 288) (catF 0 (chunk 1 []) 288 (natF litN)), .i .u32 0, .i .u32 0, .i .u32 0, .i .u32 0, .i .u32 0, .i .u32 0, .i .u32 0, .i .u32 0, .i .u32 0, .i .u32 0, .i .u32 0, .i .u32 0, .i .u32 0, .i .u32 0, .i .u32 0, .i .u32 0, .nilS, .nilS, .nilS, .nilS, .nilS, .nilS, .nilS, .gs 207 1 24 (natF ofLit7), .gs 208 1 152 (natF ofLit8), .gs 209 1 112 (natF ofLit9), .nilS, .nilS, .nilS, .nilS, .nilS, .nilS] : List D) from rfl]
    repeat' (first |with_reducible (first |refine zag ?_|refine zaa ?_|refine zaf ?_|refine zac ?_|refine zah ?_|refine zae ?_)|refine zab rfl rfl True.intro ?_|refine zas rfl ?_|((first |refine zab rfl rfl ?_ ?_|refine zax rfl ?_ ?_);focus (first |omega|exact le_ rfl|((repeat' refine And.intro ?_ ?_)<;>omega)|((repeat' refine And.intro ?_ ?_)<;>first |rfl|exact le_ rfl)))|fail)
    refine T.loop hL (fun i : Nat => [(8, .pv 45 0), (11, .i .u32 0), (12, .i .i64 3), (87, .nilS), (88, .i .i64 0), (89, .i .i64 i)]) (fun i => [(45, .var [.ah 40 1 288, .gs 41 1 (0 + 288) (catF 0 (chunk 1 []) 288 (natF litN)), .i .u32 0, .i .u32 0, .i .u32 0, .i .u32 0, .i .u32 0, .i .u32 0, .i .u32 0, .i .u32 0, .i .u32 0, .i .u32 0, .i .u32 0, .i .u32 0, .i .u32 0, .i .u32 0, .i .u32 0, .i .u32 0, .nilS, .nilS, .nilS, .nilS, .nilS, .nilS, .nilS, .gs 207 1 24 (natF ofLit7), .gs 208 1 152 (natF ofLit8), .gs 209 1 112 (natF ofLit9), .nilS, .nilS, .nilS, .nilS, .nilS, .nilS]), (40, .arr 139 1 288 (bitsAt litN cdLit 3)), (41, .row 3 1 (0 + 288)), (207, .row 3 1 24), (208, .row 3 1 152), (209, .row 3 1 112)])
      (fun i => i = 0) (fun i => 0) 0 rfl
      ⟨⟨rfl, rfl, rfl, rfl, rfl, rfl, trivial⟩, ⟨rfl, ⟨_, _, rfl, rfl, fun k hk => .inl rfl⟩, rfl, rfl, rfl, rfl, trivial⟩, rfl, by rw [hX]; simp⟩ ?_
    rintro i rfl
    try dsimp only
    repeat' (first |with_reducible (first |refine zag ?_|refine zaa ?_|refine zaf ?_|refine zac ?_|refine zan ?_|refine zai ?_|refine zao ?_)|refine zab rfl rfl True.intro ?_|refine zak rfl ?_|((first |refine zab rfl rfl ?_ ?_);focus (first |omega|((repeat' refine And.intro ?_ ?_)<;>omega)))|refine zat rfl ?_|fail)
    all_goals first
      | exact ⟨4, by decide, by decide, ⟨rfl, rfl, rfl, trivial⟩, ⟨rfl, ⟨_, _, rfl, rfl, fun k hk => .inl (by rw [zaG hk (by decide)])⟩, rfl, rfl, rfl, rfl, trivial⟩, rfl, by rw [hX]; simp⟩
      | (exfalso; omega)
      | trace_state
  · rw [show nextLit 4 = 0 from rfl, show ([D.ah 40 1 288, .gs 41 1 (0 + 288) (catF 0 (chunk 1 []) 288 (natF litN))] ++ firstLit 4 ++ [.nilS, .nilS, .nilS, .nilS, .nilS, .nilS, .nilS, .gs 207 1 24 (natF ofLit7), .gs 208 1 152 (natF ofLit8), .gs 209 1 112 (natF ofLit9), .nilS, .nilS, .nilS, .nilS, .nilS, .nilS]) = ([.ah 40 1 288, .gs 41 1 (0 + 288) (catF 0 (chunk 1 []) 288 (natF litN)), .i .u32 0, .i .u32 0, .i .u32 0, .i .u32 0, .i .u32 0, .i .u32 0, .i .u32 0, .i .u32 0, .i .u32 0, .i .u32 0, .i .u32 0, .i .u32 0, .i .u32 0, .i .u32 0, .i .u32 0, .i .u32 0, .nilS, .nilS, .nilS, .nilS, .nilS, .nilS, .nilS, .gs 207 1 24 (natF ofLit7), .gs 208 1 152 (natF ofLit8), .gs 209 1 112 (natF ofLit9), .nilS, .nilS, .nilS, .nilS, .nilS, .nilS] : List D) from rfl]
    repeat' (first |with_reducible (first |refine zag ?_|refine zaa ?_|refine zaf ?_|refine zac ?_|refine zah ?_|refine zae ?_)|refine zab rfl rfl True.intro ?_|refine zas rfl ?_|((first |refine zab rfl rfl ?_ ?_|refine zax rfl ?_ ?_);focus (first |omega|exact le_ rfl|((repeat' refine And.intro ?_ ?_)<;>omega)|((repeat' refine And.intro ?_ ?_)<;>first |rfl|exact le_ rfl)))|fail)
    refine T.loop hL (fun i : Nat => [(8, .pv 45 0), (11, .i .u32 0), (12, .i .i64 4), (87, .nilS), (88, .i .i64 0), (89, .i .i64 i)]) (fun i => [(45, .var [.ah 40 1 288, .gs 41 1 (0 + 288) (catF 0 (chunk 1 []) 288 (natF litN)), .i .u32 0, .i .u32 0, .i .u32 0, .i .u32 0, .i .u32 0, .i .u32 0, .i .u32 0, .i .u32 0, .i .u32 0, .i .u32 0, .i .u32 0, .i .u32 0, .i .u32 0, .i .u32 0, .i .u32 0, .i .u32 0, .nilS, .nilS, .nilS, .nilS, .nilS, .nilS, .nilS, .gs 207 1 24 (natF ofLit7), .gs 208 1 152 (natF ofLit8), .gs 209 1 112 (natF ofLit9), .nilS, .nilS, .nilS, .nilS, .nilS, .nilS]), (40, .arr 139 1 288 (bitsAt litN cdLit 4)), (41, .row 3 1 (0 + 288)), (207, .row 3 1 24), (208, .row 3 1 152), (209, .row 3 1 112)])
      (fun i => i = 0) (fun i => 0) 0 rfl
      ⟨⟨rfl, rfl, rfl, rfl, rfl, rfl, trivial⟩, ⟨rfl, ⟨_, _, rfl, rfl, fun k hk => .inl rfl⟩, rfl, rfl, rfl, rfl, trivial⟩, rfl, by rw [hX]; simp⟩ ?_
    rintro i rfl
    try dsimp only
    repeat' (first |with_reducible (first |refine zag ?_|refine zaa ?_|refine zaf ?_|refine zac ?_|refine zan ?_|refine zai ?_|refine zao ?_)|refine zab rfl rfl True.intro ?_|refine zak rfl ?_|((first |refine zab rfl rfl ?_ ?_);focus (first |omega|((repeat' refine And.intro ?_ ?_)<;>omega)))|refine zat rfl ?_|fail)
    all_goals first
      | exact ⟨5, by decide, by decide, ⟨rfl, rfl, rfl, trivial⟩, ⟨rfl, ⟨_, _, rfl, rfl, fun k hk => .inl (by rw [zaG hk (by decide)])⟩, rfl, rfl, rfl, rfl, trivial⟩, rfl, by rw [hX]; simp⟩
      | (exfalso; omega)
      | trace_state
  · rw [show nextLit 5 = 0 from rfl, show ([D.ah 40 1 288, .gs 41 1 (0 + 288) (catF 0 (chunk 1 []) 288 (natF litN))] ++ firstLit 5 ++ [.nilS, .nilS, .nilS, .nilS, .nilS, .nilS, .nilS, .gs 207 1 24 (natF ofLit7), .gs 208 1 152 (natF ofLit8), .gs 209 1 112 (natF ofLit9), .nilS, .nilS, .nilS, .nilS, .nilS, .nilS]) = ([.ah 40 1 288, .gs 41 1 (0 + 288) (catF 0 (chunk 1 []) 288 (natF litN)), .i .u32 0, .i .u32 0, .i .u32 0, .i .u32 0, .i .u32 0, .i .u32 0, .i .u32 0, .i .u32 0, .i .u32 0, .i .u32 0, .i .u32 0, .i .u32 0, .i .u32 0, .i .u32 0, .i .u32 0, .i .u32 0, .nilS, .nilS, .nilS, .nilS, .nilS, .nilS, .nilS, .gs 207 1 24 (natF ofLit7), .gs 208 1 152 (natF ofLit8), .gs 209 1 112 (natF ofLit9), .nilS, .nilS, .nilS, .nilS, .nilS, .nilS] : List D) from rfl]
    repeat' (first |with_reducible (first |refine zag ?_|refine zaa ?_|refine zaf ?_|refine zac ?_|refine zah ?_|refine zae ?_)|refine zab rfl rfl True.intro ?_|refine zas rfl ?_|((first |refine zab rfl rfl ?_ ?_|refine zax rfl ?_ ?_);focus (first |omega|exact le_ rfl|((repeat' refine And.intro ?_ ?_)<;>omega)|((repeat' refine And.intro ?_ ?_)<;>first |rfl|exact le_ rfl)))|fail)
    refine T.loop hL (fun i : Nat => [(8, .pv 45 0), (11, .i .u32 0), (12, .i .i64 5), (87, .nilS), (88, .i .i64 0), (89, .i .i64 i)]) (fun i => [(45, .var [.ah 40 1 288, .gs 41 1 (0 + 288) (catF 0 (chunk 1 []) 288 (natF litN)), .i .u32 0, .i .u32 0, .i .u32 0, .i .u32 0, .i .u32 0, .i .u32 0, .i .u32 0, .i .u32 0, .i .u32 0, .i .u32 0, .i .u32 0, .i .u32 0, .i .u32 0, .i .u32 0, .i .u32 0, .i .u32 0, .nilS, .nilS, .nilS, .nilS, .nilS, .nilS, .nilS, .gs 207 1 24 (natF ofLit7), .gs 208 1 152 (natF ofLit8), .gs 209 1 112 (natF ofLit9), .nilS, .nilS, .nilS, .nilS, .nilS, .nilS]), (40, .arr 139 1 288 (bitsAt litN cdLit 5)), (41, .row 3 1 (0 + 288)), (207, .row 3 1 24), (208, .row 3 1 152), (209, .row 3 1 112)])
      (fun i => i = 0) (fun i => 0) 0 rfl
      ⟨⟨rfl, rfl, rfl, rfl, rfl, rfl, trivial⟩, ⟨rfl, ⟨_, _, rfl, rfl, fun k hk => .inl rfl⟩, rfl, rfl, rfl, rfl, trivial⟩, rfl, by rw [hX]; simp⟩ ?_
    rintro i rfl
    try dsimp only
    repeat' (first |with_reducible (first |refine zag ?_|refine zaa ?_|refine zaf ?_|refine zac ?_|refine zan ?_|refine zai ?_|refine zao ?_)|refine zab rfl rfl True.intro ?_|refine zak rfl ?_|((first |refine zab rfl rfl ?_ ?_);focus (first |omega|((repeat' refine And.intro ?_ ?_)<;>omega)))|refine zat rfl ?_|fail)
    all_goals first
      | exact ⟨6, by decide, by decide, ⟨rfl, rfl, rfl, trivial⟩, ⟨rfl, ⟨_, _, rfl, rfl, fun k hk => .inl (by rw [zaG hk (by decide)])⟩, rfl, rfl, rfl, rfl, trivial⟩, rfl, by rw [hX]; simp⟩
      | (exfalso; omega)
      | trace_state
  · rw [show nextLit 6 = 0 from rfl, show ([D.ah 40 1 288, .gs 41 1 (0 + 288) (catF 0 (chunk 1 []) 288 (natF litN))] ++ firstLit 6 ++ [.nilS, .nilS, .nilS, .nilS, .nilS, .nilS, .nilS, .gs 207 1 24 (natF ofLit7), .gs 208 1 152 (natF ofLit8), .gs 209 1 112 (natF ofLit9), .nilS, .nilS, .nilS, .nilS, .nilS, .nilS]) = ([.ah 40 1 288, .gs 41 1 (0 + 288) (catF 0 (chunk 1 []) 288 (natF litN)), .i .u32 0, .i .u32 0, .i .u32 0, .i .u32 0, .i .u32 0, .i .u32 0, .i .u32 0, .i .u32 0, .i .u32 0, .i .u32 0, .i .u32 0, .i .u32 0, .i .u32 0, .i .u32 0, .i .u32 0, .i .u32 0, .nilS, .nilS, .nilS, .nilS, .nilS, .nilS, .nilS, .gs 207 1 24 (natF ofLit7), .gs 208 1 152 (natF ofLit8), .gs 209 1 112 (natF ofLit9), .nilS, .nilS, .nilS, .nilS, .nilS, .nilS] : List D) from rfl]
    repeat' (first |with_reducible (first |refine zag ?_|refine zaa ?_|refine zaf ?_|refine zac ?_|refine zah ?_|refine zae ?_)|refine zab rfl rfl True.intro ?_|refine zas rfl ?_|((first |refine zab rfl rfl ?_ ?_|refine zax rfl ?_ ?_);focus (first |omega|exact le_ rfl|((repeat' refine And.intro ?_ ?_)<;>omega)|((repeat' refine And.intro ?_ ?_)<;>first |rfl|exact le_ rfl)))|fail)
    refine T.loop hL (fun i : Nat => [(8, .pv 45 0), (11, .i .u32 0), (12, .i .i64 6), (87, .nilS), (88, .i .i64 0), (89, .i .i64 i)]) (fun i => [(45, .var [.ah 40 1 288, .gs 41 1 (0 + 288) (catF 0 (chunk 1 []) 288 (natF litN)), .i .u32 0, .i .u32 0, .i .u32 0, .i .u32 0, .i .u32 0, .i .u32 0, .i .u32 0, .i .u32 0, .i .u32 0, .i .u32 0, .i .u32 0, .i .u32 0, .i .u32 0, .i .u32 0, .i .u32 0, .i .u32 0, .nilS, .nilS, .nilS, .nilS, .nilS, .nilS, .nilS, .gs 207 1 24 (natF ofLit7), .gs 208 1 152 (natF ofLit8), .gs 209 1 112 (natF ofLit9), .nilS, .nilS, .nilS, .nilS, .nilS, .nilS]), (40, .arr 139 1 288 (bitsAt litN cdLit 6)), (41, .row 3 1 (0 + 288)), (207, .row 3 1 24), (208, .row 3 1 152), (209, .row 3 1 112)])
      (fun i => i = 0) (fun i => 0) 0 rfl
      ⟨⟨rfl, rfl, rfl, rfl, rfl, rfl, trivial⟩, ⟨rfl, ⟨_, _, rfl, rfl, fun k hk => .inl rfl⟩, rfl, rfl, rfl, rfl, trivial⟩, rfl, by rw [hX]; simp⟩ ?_
    rintro i rfl
    try dsimp only
    repeat' (first |with_reducible (first |refine zag ?_|refine zaa ?_|refine zaf ?_|refine zac ?_|refine zan ?_|refine zai ?_|refine zao ?_)|refine zab rfl rfl True.intro ?_|refine zak rfl ?_|((first |refine zab rfl rfl ?_ ?_);focus (first |omega|((repeat' refine And.intro ?_ ?_)<;>omega)))|refine zat rfl ?_|fail)
    all_goals first
      | exact ⟨7, by decide, by decide, ⟨rfl, rfl, rfl, trivial⟩, ⟨rfl, ⟨_, _, rfl, rfl, fun k hk => .inl (by rw [zaG hk (by decide)])⟩, rfl, rfl, rfl, rfl, trivial⟩, rfl, by rw [hX]; simp⟩
      | (exfalso; omega)
      | trace_state
  · rw [show nextLit 7 = 0 from rfl, show ([D.ah 40 1 288, .gs 41 1 (0 + 288) (catF 0 (chunk 1 []) 288 (natF litN))] ++ firstLit 7 ++ [.nilS, .nilS, .nilS, .nilS, .nilS, .nilS, .nilS, .gs 207 1 24 (natF ofLit7), .gs 208 1 152 (natF ofLit8), .gs 209 1 112 (natF ofLit9), .nilS, .nilS, .nilS, .nilS, .nilS, .nilS]) = ([.ah 40 1 288, .gs 41 1 (0 + 288) (catF 0 (chunk 1 []) 288 (natF litN)), .i .u32 0, .i .u32 0, .i .u32 0, .i .u32 0, .i .u32 0, .i .u32 0, .i .u32 0, .i .u32 0, .i .u32 0, .i .u32 0, .i .u32 0, .i .u32 0, .i .u32 0, .i .u32 0, .i .u32 0, .i .u32 0, .nilS, .nilS, .nilS, .nilS, .nilS, .nilS, .nilS, .gs 207 1 24 (natF ofLit7), .gs 208 1 152 (natF ofLit8), .gs 209 1 112 (natF ofLit9), .nilS, .nilS, .nilS, .nilS, .nilS, .nilS] : List D) from rfl]
    repeat' (first |with_reducible (first |refine zag ?_|refine zaa ?_|refine zaf ?_|refine zac ?_|refine zah ?_|refine zae ?_)|refine zab rfl rfl True.intro ?_|refine zas rfl ?_|((first |refine zab rfl rfl ?_ ?_|refine zax rfl ?_ ?_);focus (first |omega|exact le_ rfl|((repeat' refine And.intro ?_ ?_)<;>omega)|((repeat' refine And.intro ?_ ?_)<;>first |rfl|exact le_ rfl)))|fail)
    refine T.loop hL (fun i : Nat => [(8, .pv 45 0), (11, .i .u32 (0 + (i : Int))), (12, .i .i64 7), (87, .gs 207 1 24 (natF ofLit7)), (88, .i .i64 24), (89, .i .i64 i)]) (fun i => [(45, .var [.ah 40 1 288, .gs 41 1 (0 + 288) (catF 0 (chunk 1 []) 288 (natF litN)), .i .u32 0, .i .u32 0, .i .u32 0, .i .u32 0, .i .u32 0, .i .u32 0, .i .u32 0, .i .u32 0, .i .u32 0, .i .u32 0, .i .u32 0, .i .u32 0, .i .u32 0, .i .u32 0, .i .u32 0, .i .u32 0, .nilS, .nilS, .nilS, .nilS, .nilS, .nilS, .nilS, .gs 207 1 24 (natF ofLit7), .gs 208 1 152 (natF ofLit8), .gs 209 1 112 (natF ofLit9), .nilS, .nilS, .nilS, .nilS, .nilS, .nilS]), (40, .arr 139 1 288 (bitsIn litN cdLit rkLit 7 i)), (41, .row 3 1 (0 + 288)), (207, .row 3 1 24), (208, .row 3 1 152), (209, .row 3 1 112)])
      (fun i => i ≤ 24) (fun i => 24 - i) 0 (Nat.zero_le _)
      ⟨⟨rfl, rfl, rfl, rfl, rfl, rfl, trivial⟩, ⟨rfl, ⟨_, _, rfl, rfl, fun k hk => .inl (by rw [zbB])⟩, rfl, rfl, rfl, rfl, trivial⟩, rfl, by rw [hX]; simp⟩ ?_
    intro i g1
    try dsimp only at g1 ⊢
    have hnat : (i : Int).toNat = i := Int.toNat_natCast i
    by_cases hi : i < 24
    · have hi' : (i : Int) < 24 := by omega
      obtain ⟨m1, m2, m3, m4, m5⟩ := ziU hi
      have m1' : ((ofLit7 (i : Int).toNat : Nat) : Int) < 288 := by rw [hnat]; omega
      have hput := zdi (ln := litN) (cd := cdLit) (rk := rkLit) (s := 7) (i := i) (m0 := ofLit7 i) (N := 288) m2 m3 (by omega) m5
      rw [m4] at hput
      have hw : IntKind.u32.wrap (0 + (i : Int) + 1) = 0 + ((i + 1 : Nat) : Int) := by rw [IntKind.wrap_u32]; omega
      repeat' (first |with_reducible (first |refine zag ?_|refine zaa ?_|refine zaf ?_|refine zac ?_|refine zah ?_|refine zae ?_|refine zai ?_)|refine zab rfl rfl True.intro ?_|((first |refine zad rfl ?_ ?_)<;>intro<;>try (first |(exfalso;omega)))|((first |refine zab rfl rfl ?_ ?_|refine zax rfl ?_ ?_);focus (first |omega|exact le_ rfl|((repeat' refine And.intro ?_ ?_)<;>omega)|((repeat' refine And.intro ?_ ?_)<;>first |omega|rfl|exact Nat.le_refl _)))|fail)
      all_goals first
        | exact ⟨i + 1, by omega, by omega, ⟨rfl, congrArg (D.i .u32) hw, rfl, rfl, rfl, rfl, trivial⟩, ⟨rfl, ⟨_, _, rfl, rfl, fun k hk => .inl (hput k hk)⟩, rfl, rfl, rfl, rfl, trivial⟩, rfl, by rw [hX]; simp⟩
        | (exfalso; omega)
        | trace_state
    have hi' : ¬ (i : Int) < 24 := by omega
    have : i = 24 := by omega
    subst this
    repeat' (first |with_reducible (first |refine zag ?_|refine zaa ?_|refine zaf ?_|refine zac ?_|refine zan ?_|refine zai ?_|refine zao ?_)|refine zab rfl rfl True.intro ?_|refine zak rfl ?_|((first |refine zab rfl rfl ?_ ?_);focus (first |omega|((repeat' refine And.intro ?_ ?_)<;>omega)))|refine zat rfl ?_|fail)
    all_goals first
      | exact ⟨8, by decide, by decide, ⟨rfl, rfl, rfl, trivial⟩, ⟨rfl, ⟨_, _, rfl, rfl, fun k hk => .inl (bitsInLit7 hk)⟩, rfl, rfl, rfl, rfl, trivial⟩, rfl, by rw [hX]; simp⟩
      | (exfalso; omega)
      | trace_state
  · rw [show nextLit 8 = 24 from rfl, show ([D.ah 40 1 288, .gs 41 1 (0 + 288) (catF 0 (chunk 1 []) 288 (natF litN))] ++ firstLit 8 ++ [.nilS, .nilS, .nilS, .nilS, .nilS, .nilS, .nilS, .gs 207 1 24 (natF ofLit7), .gs 208 1 152 (natF ofLit8), .gs 209 1 112 (natF ofLit9), .nilS, .nilS, .nilS, .nilS, .nilS, .nilS]) = ([.ah 40 1 288, .gs 41 1 (0 + 288) (catF 0 (chunk 1 []) 288 (natF litN)), .i .u32 0, .i .u32 0, .i .u32 0, .i .u32 0, .i .u32 0, .i .u32 0, .i .u32 0, .i .u32 0, .i .u32 0, .i .u32 0, .i .u32 0, .i .u32 0, .i .u32 0, .i .u32 0, .i .u32 0, .i .u32 0, .nilS, .nilS, .nilS, .nilS, .nilS, .nilS, .nilS, .gs 207 1 24 (natF ofLit7), .gs 208 1 152 (natF ofLit8), .gs 209 1 112 (natF ofLit9), .nilS, .nilS, .nilS, .nilS, .nilS, .nilS] : List D) from rfl]
    repeat' (first |with_reducible (first |refine zag ?_|refine zaa ?_|refine zaf ?_|refine zac ?_|refine zah ?_|refine zae ?_)|refine zab rfl rfl True.intro ?_|refine zas rfl ?_|((first |refine zab rfl rfl ?_ ?_|refine zax rfl ?_ ?_);focus (first |omega|exact le_ rfl|((repeat' refine And.intro ?_ ?_)<;>omega)|((repeat' refine And.intro ?_ ?_)<;>first |rfl|exact le_ rfl)))|fail)
    refine T.loop hL (fun i : Nat => [(8, .pv 45 0), (11, .i .u32 (48 + (i : Int))), (12, .i .i64 8), (87, .gs 208 1 152 (natF ofLit8)), (88, .i .i64 152), (89, .i .i64 i)]) (fun i => [(45, .var [.ah 40 1 288, .gs 41 1 (0 + 288) (catF 0 (chunk 1 []) 288 (natF litN)), .i .u32 0, .i .u32 0, .i .u32 0, .i .u32 0, .i .u32 0, .i .u32 0, .i .u32 0, .i .u32 0, .i .u32 48, .i .u32 0, .i .u32 0, .i .u32 0, .i .u32 0, .i .u32 0, .i .u32 0, .i .u32 0, .nilS, .nilS, .nilS, .nilS, .nilS, .nilS, .nilS, .gs 207 1 24 (natF ofLit7), .gs 208 1 152 (natF ofLit8), .gs 209 1 112 (natF ofLit9), .nilS, .nilS, .nilS, .nilS, .nilS, .nilS]), (40, .arr 139 1 288 (bitsIn litN cdLit rkLit 8 i)), (41, .row 3 1 (0 + 288)), (207, .row 3 1 24), (208, .row 3 1 152), (209, .row 3 1 112)])
      (fun i => i ≤ 152) (fun i => 152 - i) 0 (Nat.zero_le _)
      ⟨⟨rfl, rfl, rfl, rfl, rfl, rfl, trivial⟩, ⟨rfl, ⟨_, _, rfl, rfl, fun k hk => .inl (by rw [zbB])⟩, rfl, rfl, rfl, rfl, trivial⟩, rfl, by rw [hX]; simp⟩ ?_
    intro i g1
    try dsimp only at g1 ⊢
    have hnat : (i : Int).toNat = i := Int.toNat_natCast i
    by_cases hi : i < 152
    · have hi' : (i : Int) < 152 := by omega
      obtain ⟨m1, m2, m3, m4, m5⟩ := zix hi
      have m1' : ((ofLit8 (i : Int).toNat : Nat) : Int) < 288 := by rw [hnat]; omega
      have hput := zdi (ln := litN) (cd := cdLit) (rk := rkLit) (s := 8) (i := i) (m0 := ofLit8 i) (N := 288) m2 m3 (by omega) m5
      rw [m4] at hput
      have hw : IntKind.u32.wrap (48 + (i : Int) + 1) = 48 + ((i + 1 : Nat) : Int) := by rw [IntKind.wrap_u32]; omega
      repeat' (first |with_reducible (first |refine zag ?_|refine zaa ?_|refine zaf ?_|refine zac ?_|refine zah ?_|refine zae ?_|refine zai ?_)|refine zab rfl rfl True.intro ?_|((first |refine zad rfl ?_ ?_)<;>intro<;>try (first |(exfalso;omega)))|((first |refine zab rfl rfl ?_ ?_|refine zax rfl ?_ ?_);focus (first |omega|exact le_ rfl|((repeat' refine And.intro ?_ ?_)<;>omega)|((repeat' refine And.intro ?_ ?_)<;>first |omega|rfl|exact Nat.le_refl _)))|fail)
      all_goals first
        | exact ⟨i + 1, by omega, by omega, ⟨rfl, congrArg (D.i .u32) hw, rfl, rfl, rfl, rfl, trivial⟩, ⟨rfl, ⟨_, _, rfl, rfl, fun k hk => .inl (hput k hk)⟩, rfl, rfl, rfl, rfl, trivial⟩, rfl, by rw [hX]; simp⟩
        | (exfalso; omega)
        | trace_state
    have hi' : ¬ (i : Int) < 152 := by omega
    have : i = 152 := by omega
    subst this
    repeat' (first |with_reducible (first |refine zag ?_|refine zaa ?_|refine zaf ?_|refine zac ?_|refine zan ?_|refine zai ?_|refine zao ?_)|refine zab rfl rfl True.intro ?_|refine zak rfl ?_|((first |refine zab rfl rfl ?_ ?_);focus (first |omega|((repeat' refine And.intro ?_ ?_)<;>omega)))|refine zat rfl ?_|fail)
    all_goals first
      | exact ⟨9, by decide, by decide, ⟨rfl, rfl, rfl, trivial⟩, ⟨rfl, ⟨_, _, rfl, rfl, fun k hk => .inl (bitsInLit8 hk)⟩, rfl, rfl, rfl, rfl, trivial⟩, rfl, by rw [hX]; simp⟩
      | (exfalso; omega)
      | trace_state
  · rw [show nextLit 9 = 200 from rfl, show ([D.ah 40 1 288, .gs 41 1 (0 + 288) (catF 0 (chunk 1 []) 288 (natF litN))] ++ firstLit 9 ++ [.nilS, .nilS, .nilS, .nilS, .nilS, .nilS, .nilS, .gs 207 1 24 (natF ofLit7), .gs 208 1 152 (natF ofLit8), .gs 209 1 112 (natF ofLit9), .nilS, .nilS, .nilS, .nilS, .nilS, .nilS]) = ([.ah 40 1 288, .gs 41 1 (0 + 288) (catF 0 (chunk 1 []) 288 (natF litN)), .i .u32 0, .i .u32 0, .i .u32 0, .i .u32 0, .i .u32 0, .i .u32 0, .i .u32 0, .i .u32 0, .i .u32 48, .i .u32 0, .i .u32 0, .i .u32 0, .i .u32 0, .i .u32 0, .i .u32 0, .i .u32 0, .nilS, .nilS, .nilS, .nilS, .nilS, .nilS, .nilS, .gs 207 1 24 (natF ofLit7), .gs 208 1 152 (natF ofLit8), .gs 209 1 112 (natF ofLit9), .nilS, .nilS, .nilS, .nilS, .nilS, .nilS] : List D) from rfl]
    repeat' (first |with_reducible (first |refine zag ?_|refine zaa ?_|refine zaf ?_|refine zac ?_|refine zah ?_|refine zae ?_)|refine zab rfl rfl True.intro ?_|refine zas rfl ?_|((first |refine zab rfl rfl ?_ ?_|refine zax rfl ?_ ?_);focus (first |omega|exact le_ rfl|((repeat' refine And.intro ?_ ?_)<;>omega)|((repeat' refine And.intro ?_ ?_)<;>first |rfl|exact le_ rfl)))|fail)
    refine T.loop hL (fun i : Nat => [(8, .pv 45 0), (11, .i .u32 (400 + (i : Int))), (12, .i .i64 9), (87, .gs 209 1 112 (natF ofLit9)), (88, .i .i64 112), (89, .i .i64 i)]) (fun i => [(45, .var [.ah 40 1 288, .gs 41 1 (0 + 288) (catF 0 (chunk 1 []) 288 (natF litN)), .i .u32 0, .i .u32 0, .i .u32 0, .i .u32 0, .i .u32 0, .i .u32 0, .i .u32 0, .i .u32 0, .i .u32 48, .i .u32 400, .i .u32 0, .i .u32 0, .i .u32 0, .i .u32 0, .i .u32 0, .i .u32 0, .nilS, .nilS, .nilS, .nilS, .nilS, .nilS, .nilS, .gs 207 1 24 (natF ofLit7), .gs 208 1 152 (natF ofLit8), .gs 209 1 112 (natF ofLit9), .nilS, .nilS, .nilS, .nilS, .nilS, .nilS]), (40, .arr 139 1 288 (bitsIn litN cdLit rkLit 9 i)), (41, .row 3 1 (0 + 288)), (207, .row 3 1 24), (208, .row 3 1 152), (209, .row 3 1 112)])
      (fun i => i ≤ 112) (fun i => 112 - i) 0 (Nat.zero_le _)
      ⟨⟨rfl, rfl, rfl, rfl, rfl, rfl, trivial⟩, ⟨rfl, ⟨_, _, rfl, rfl, fun k hk => .inl (by rw [zbB])⟩, rfl, rfl, rfl, rfl, trivial⟩, rfl, by rw [hX]; simp⟩ ?_
    intro i g1
    try dsimp only at g1 ⊢
    have hnat : (i : Int).toNat = i := Int.toNat_natCast i
    by_cases hi : i < 112
    · have hi' : (i : Int) < 112 := by omega
      obtain ⟨m1, m2, m3, m4, m5⟩ := zka hi
      have m1' : ((ofLit9 (i : Int).toNat : Nat) : Int) < 288 := by rw [hnat]; omega
      have hput := zdi (ln := litN) (cd := cdLit) (rk := rkLit) (s := 9) (i := i) (m0 := ofLit9 i) (N := 288) m2 m3 (by omega) m5
      rw [m4] at hput
      have hw : IntKind.u32.wrap (400 + (i : Int) + 1) = 400 + ((i + 1 : Nat) : Int) := by rw [IntKind.wrap_u32]; omega
      repeat' (first |with_reducible (first |refine zag ?_|refine zaa ?_|refine zaf ?_|refine zac ?_|refine zah ?_|refine zae ?_|refine zai ?_)|refine zab rfl rfl True.intro ?_|((first |refine zad rfl ?_ ?_)<;>intro<;>try (first |(exfalso;omega)))|((first |refine zab rfl rfl ?_ ?_|refine zax rfl ?_ ?_);focus (first |omega|exact le_ rfl|((repeat' refine And.intro ?_ ?_)<;>omega)|((repeat' refine And.intro ?_ ?_)<;>first |omega|rfl|exact Nat.le_refl _)))|fail)
      all_goals first
        | exact ⟨i + 1, by omega, by omega, ⟨rfl, congrArg (D.i .u32) hw, rfl, rfl, rfl, rfl, trivial⟩, ⟨rfl, ⟨_, _, rfl, rfl, fun k hk => .inl (hput k hk)⟩, rfl, rfl, rfl, rfl, trivial⟩, rfl, by rw [hX]; simp⟩
        | (exfalso; omega)
        | trace_state
    have hi' : ¬ (i : Int) < 112 := by omega
    have : i = 112 := by omega
    subst this
    repeat' (first |with_reducible (first |refine zag ?_|refine zaa ?_|refine zaf ?_|refine zac ?_|refine zan ?_|refine zai ?_|refine zao ?_)|refine zab rfl rfl True.intro ?_|refine zak rfl ?_|((first |refine zab rfl rfl ?_ ?_);focus (first |omega|((repeat' refine And.intro ?_ ?_)<;>omega)))|refine zat rfl ?_|fail)
    all_goals first
      | exact ⟨10, by decide, by decide, ⟨rfl, rfl, rfl, trivial⟩, ⟨rfl, ⟨_, _, rfl, rfl, fun k hk => .inl (bitsInLit9 hk)⟩, rfl, rfl, rfl, rfl, trivial⟩, rfl, by rw [hX]; simp⟩
      | (exfalso; omega)
      | trace_state
  · rw [show nextLit 10 = 512 from rfl, show ([D.ah 40 1 288, .gs 41 1 (0 + 288) (catF 0 (chunk 1 []) 288 (natF litN))] ++ firstLit 10 ++ [.nilS, .nilS, .nilS, .nilS, .nilS, .nilS, .nilS, .gs 207 1 24 (natF ofLit7), .gs 208 1 152 (natF ofLit8), .gs 209 1 112 (natF ofLit9), .nilS, .nilS, .nilS, .nilS, .nilS, .nilS]) = ([.ah 40 1 288, .gs 41 1 (0 + 288) (catF 0 (chunk 1 []) 288 (natF litN)), .i .u32 0, .i .u32 0, .i .u32 0, .i .u32 0, .i .u32 0, .i .u32 0, .i .u32 0, .i .u32 0, .i .u32 48, .i .u32 400, .i .u32 0, .i .u32 0, .i .u32 0, .i .u32 0, .i .u32 0, .i .u32 0, .nilS, .nilS, .nilS, .nilS, .nilS, .nilS, .nilS, .gs 207 1 24 (natF ofLit7), .gs 208 1 152 (natF ofLit8), .gs 209 1 112 (natF ofLit9), .nilS, .nilS, .nilS, .nilS, .nilS, .nilS] : List D) from rfl]
    repeat' (first |with_reducible (first |refine zag ?_|refine zaa ?_|refine zaf ?_|refine zac ?_|refine zah ?_|refine zae ?_)|refine zab rfl rfl True.intro ?_|refine zas rfl ?_|((first |refine zab rfl rfl ?_ ?_|refine zax rfl ?_ ?_);focus (first |omega|exact le_ rfl|((repeat' refine And.intro ?_ ?_)<;>omega)|((repeat' refine And.intro ?_ ?_)<;>first |rfl|exact le_ rfl)))|fail)
    refine T.loop hL (fun i : Nat => [(8, .pv 45 0), (11, .i .u32 1024), (12, .i .i64 10), (87, .nilS), (88, .i .i64 0), (89, .i .i64 i)]) (fun i => [(45, .var [.ah 40 1 288, .gs 41 1 (0 + 288) (catF 0 (chunk 1 []) 288 (natF litN)), .i .u32 0, .i .u32 0, .i .u32 0, .i .u32 0, .i .u32 0, .i .u32 0, .i .u32 0, .i .u32 0, .i .u32 48, .i .u32 400, .i .u32 1024, .i .u32 0, .i .u32 0, .i .u32 0, .i .u32 0, .i .u32 0, .nilS, .nilS, .nilS, .nilS, .nilS, .nilS, .nilS, .gs 207 1 24 (natF ofLit7), .gs 208 1 152 (natF ofLit8), .gs 209 1 112 (natF ofLit9), .nilS, .nilS, .nilS, .nilS, .nilS, .nilS]), (40, .arr 139 1 288 (bitsAt litN cdLit 10)), (41, .row 3 1 (0 + 288)), (207, .row 3 1 24), (208, .row 3 1 152), (209, .row 3 1 112)])
      (fun i => i = 0) (fun i => 0) 0 rfl
      ⟨⟨rfl, rfl, rfl, rfl, rfl, rfl, trivial⟩, ⟨rfl, ⟨_, _, rfl, rfl, fun k hk => .inl rfl⟩, rfl, rfl, rfl, rfl, trivial⟩, rfl, by rw [hX]; simp⟩ ?_
    rintro i rfl
    try dsimp only
    repeat' (first |with_reducible (first |refine zag ?_|refine zaa ?_|refine zaf ?_|refine zac ?_|refine zan ?_|refine zai ?_|refine zao ?_)|refine zab rfl rfl True.intro ?_|refine zak rfl ?_|((first |refine zab rfl rfl ?_ ?_);focus (first |omega|((repeat' refine And.intro ?_ ?_)<;>omega)))|refine zat rfl ?_|fail)
    all_goals first
      | exact ⟨11, by decide, by decide, ⟨rfl, rfl, rfl, trivial⟩, ⟨rfl, ⟨_, _, rfl, rfl, fun k hk => .inl (by rw [zaG hk (by decide)])⟩, rfl, rfl, rfl, rfl, trivial⟩, rfl, by rw [hX]; simp⟩
      | (exfalso; omega)
      | trace_state
  · rw [show nextLit 11 = 1024 from rfl, show ([D.ah 40 1 288, .gs 41 1 (0 + 288) (catF 0 (chunk 1 []) 288 (natF litN))] ++ firstLit 11 ++ [.nilS, .nilS, .nilS, .nilS, .nilS, .nilS, .nilS, .gs 207 1 24 (natF ofLit7), .gs 208 1 152 (natF ofLit8), .gs 209 1 112 (natF ofLit9), .nilS, .nilS, .nilS, .nilS, .nilS, .nilS]) = ([.ah 40 1 288, .gs 41 1 (0 + 288) (catF 0 (chunk 1 []) 288 (natF litN)), .i .u32 0, .i .u32 0, .i .u32 0, .i .u32 0, .i .u32 0, .i .u32 0, .i .u32 0, .i .u32 0, .i .u32 48, .i .u32 400, .i .u32 1024, .i .u32 0, .i .u32 0, .i .u32 0, .i .u32 0, .i .u32 0, .nilS, .nilS, .nilS, .nilS, .nilS, .nilS, .nilS, .gs 207 1 24 (natF ofLit7), .gs 208 1 152 (natF ofLit8), .gs 209 1 112 (natF ofLit9), .nilS, .nilS, .nilS, .nilS, .nilS, .nilS] : List D) from rfl]
    repeat' (first |with_reducible (first |refine zag ?_|refine zaa ?_|refine zaf ?_|refine zac ?_|refine zah ?_|refine zae ?_)|refine zab rfl rfl True.intro ?_|refine zas rfl ?_|((first |refine zab rfl rfl ?_ ?_|refine zax rfl ?_ ?_);focus (first |omega|exact le_ rfl|((repeat' refine And.intro ?_ ?_)<;>omega)|((repeat' refine And.intro ?_ ?_)<;>first |rfl|exact le_ rfl)))|fail)
    refine T.loop hL (fun i : Nat => [(8, .pv 45 0), (11, .i .u32 2048), (12, .i .i64 11), (87, .nilS), (88, .i .i64 0), (89, .i .i64 i)]) (fun i => [(45, .var [.ah 40 1 288, .gs 41 1 (0 + 288) (catF 0 (chunk 1 []) 288 (natF litN)), .i .u32 0, .i .u32 0, .i .u32 0, .i .u32 0, .i .u32 0, .i .u32 0, .i .u32 0, .i .u32 0, .i .u32 48, .i .u32 400, .i .u32 1024, .i .u32 2048, .i .u32 0, .i .u32 0, .i .u32 0, .i .u32 0, .nilS, .nilS, .nilS, .nilS, .nilS, .nilS, .nilS, .gs 207 1 24 (natF ofLit7), .gs 208 1 152 (natF ofLit8), .gs 209 1 112 (natF ofLit9), .nilS, .nilS, .nilS, .nilS, .nilS, .nilS]), (40, .arr 139 1 288 (bitsAt litN cdLit 11)), (41, .row 3 1 (0 + 288)), (207, .row 3 1 24), (208, .row 3 1 152), (209, .row 3 1 112)])
      (fun i => i = 0) (fun i => 0) 0 rfl
      ⟨⟨rfl, rfl, rfl, rfl, rfl, rfl, trivial⟩, ⟨rfl, ⟨_, _, rfl, rfl, fun k hk => .inl rfl⟩, rfl, rfl, rfl, rfl, trivial⟩, rfl, by rw [hX]; simp⟩ ?_
    rintro i rfl
    try dsimp only
    repeat' (first |with_reducible (first |refine zag ?_|refine zaa ?_|refine zaf ?_|refine zac ?_|refine zan ?_|refine zai ?_|refine zao ?_)|refine zab rfl rfl True.intro ?_|refine zak rfl ?_|((first |refine zab rfl rfl ?_ ?_);focus (first |omega|((repeat' refine And.intro ?_ ?_)<;>omega)))|refine zat rfl ?_|fail)
    all_goals first
      | exact ⟨12, by decide, by decide, ⟨rfl, rfl, rfl, trivial⟩, ⟨rfl, ⟨_, _, rfl, rfl, fun k hk => .inl (by rw [zaG hk (by decide)])⟩, rfl, rfl, rfl, rfl, trivial⟩, rfl, by rw [hX]; simp⟩
      | (exfalso; omega)
      | trace_state
  · rw [show nextLit 12 = 2048 from rfl, show ([D.ah 40 1 288, .gs 41 1 (0 + 288) (catF 0 (chunk 1 []) 288 (natF litN))] ++ firstLit 12 ++ [.nilS, .nilS, .nilS, .nilS, .nilS, .nilS, .nilS, .gs 207 1 24 (natF ofLit7), .gs 208 1 152 (natF ofLit8), .gs 209 1 112 (natF ofLit9), .nilS, .nilS, .nilS, .nilS, .nilS, .nilS]) = ([.ah 40 1 288, .gs 41 1 (0 + 288) (catF 0 (chunk 1 []) 288 (natF litN)), .i .u32 0, .i .u32 0, .i .u32 0, .i .u32 0, .i .u32 0, .i .u32 0, .i .u32 0, .i .u32 0, .i .u32 48, .i .u32 400, .i .u32 1024, .i .u32 2048, .i .u32 0, .i .u32 0, .i .u32 0, .i .u32 0, .nilS, .nilS, .nilS, .nilS, .nilS, .nilS, .nilS, .gs 207 1 24 (natF ofLit7), .gs 208 1 152 (natF ofLit8), .gs 209 1 112 (natF ofLit9), .nilS, .nilS, .nilS, .nilS, .nilS, .nilS] : List D) from rfl]
    repeat' (first |with_reducible (first |refine zag ?_|refine zaa ?_|refine zaf ?_|refine zac ?_|refine zah ?_|refine zae ?_)|refine zab rfl rfl True.intro ?_|refine zas rfl ?_|((first |refine zab rfl rfl ?_ ?_|refine zax rfl ?_ ?_);focus (first |omega|exact le_ rfl|((repeat' refine And.intro ?_ ?_)<;>omega)|((repeat' refine And.intro ?_ ?_)<;>first |rfl|exact le_ rfl)))|fail)
    refine T.loop hL (fun i : Nat => [(8, .pv 45 0), (11, .i .u32 4096), (12, .i .i64 12), (87, .nilS), (88, .i .i64 0), (89, .i .i64 i)]) (fun i => [(45, .var [.ah 40 1 288, .gs 41 1 (0 + 288) (catF 0 (chunk 1 []) 288 (natF litN)), .i .u32 0, .i .u32 0, .i .u32 0, .i .u32 0, .i .u32 0, .i .u32 0, .i .u32 0, .i .u32 0, .i .u32 48, .i .u32 400, .i .u32 1024, .i .u32 2048, .i .u32 4096, .i .u32 0, .i .u32 0, .i .u32 0, .nilS, .nilS, .nilS, .nilS, .nilS, .nilS, .nilS, .gs 207 1 24 (natF ofLit7), .gs 208 1 152 (natF ofLit8), .gs 209 1 112 (natF ofLit9), .nilS, .nilS, .nilS, .nilS, .nilS, .nilS]), (40, .arr 139 1 288 (bitsAt litN cdLit 12)), (41, .row 3 1 (0 + 288)), (207, .row 3 1 24), (208, .row 3 1 152), (209, .row 3 1 112)])
      (fun i => i = 0) (fun i => 0) 0 rfl
      ⟨⟨rfl, rfl, rfl, rfl, rfl, rfl, trivial⟩, ⟨rfl, ⟨_, _, rfl, rfl, fun k hk => .inl rfl⟩, rfl, rfl, rfl, rfl, trivial⟩, rfl, by rw [hX]; simp⟩ ?_
    rintro i rfl
    try dsimp only
    repeat' (first |with_reducible (first |refine zag ?_|refine zaa ?_|refine zaf ?_|refine zac ?_|refine zan ?_|refine zai ?_|refine zao ?_)|refine zab rfl rfl True.intro ?_|refine zak rfl ?_|((first |refine zab rfl rfl ?_ ?_);focus (first |omega|((repeat' refine And.intro ?_ ?_)<;>omega)))|refine zat rfl ?_|fail)
    all_goals first
      | exact ⟨13, by decide, by decide, ⟨rfl, rfl, rfl, trivial⟩, ⟨rfl, ⟨_, _, rfl, rfl, fun k hk => .inl (by rw [zaG hk (by decide)])⟩, rfl, rfl, rfl, rfl, trivial⟩, rfl, by rw [hX]; simp⟩
      | (exfalso; omega)
      | trace_state
  · rw [show nextLit 13 = 4096 from rfl, show ([D.ah 40 1 288, .gs 41 1 (0 + 288) (catF 0 (chunk 1 []) 288 (natF litN))] ++ firstLit 13 ++ [.nilS, .nilS, .nilS, .nilS, .nilS, .nilS, .nilS, .gs 207 1 24 (natF ofLit7), .gs 208 1 152 (natF ofLit8), .gs 209 1 112 (natF ofLit9), .nilS, .nilS, .nilS, .nilS, .nilS, .nilS]) = ([.ah 40 1 288, .gs 41 1 (0 + 288) (catF 0 (chunk 1 []) 288 (natF litN)), .i .u32 0, .i .u32 0, .i .u32 0, .i .u32 0, .i .u32 0, .i .u32 0, .i .u32 0, .i .u32 0, .i .u32 48, .i .u32 400, .i .u32 1024, .i .u32 2048, .i .u32 4096, .i .u32 0, .i .u32 0, .i .u32 0, .nilS, .nilS, .nilS, .nilS, .nilS, .nilS, .nilS, .gs 207 1 24 (natF ofLit7), .gs 208 1 152 (natF ofLit8), .gs 209 1 112 (natF ofLit9), .nilS, .nilS, .nilS, .nilS, .nilS, .nilS] : List D) from rfl]
    repeat' (first |with_reducible (first |refine zag ?_|refine zaa ?_|refine zaf ?_|refine zac ?_|refine zah ?_|refine zae ?_)|refine zab rfl rfl True.intro ?_|refine zas rfl ?_|((first |refine zab rfl rfl ?_ ?_|refine zax rfl ?_ ?_);focus (first |omega|exact le_ rfl|((repeat' refine And.intro ?_ ?_)<;>omega)|((repeat' refine And.intro ?_ ?_)<;>first |rfl|exact le_ rfl)))|fail)
    refine T.loop hL (fun i : Nat => [(8, .pv 45 0), (11, .i .u32 8192), (12, .i .i64 13), (87, .nilS), (88, .i .i64 0), (89, .i .i64 i)]) (fun i => [(45, .var [.ah 40 1 288, .gs 41 1 (0 + 288) (catF 0 (chunk 1 []) 288 (natF litN)), .i .u32 0, .i .u32 0, .i .u32 0, .i .u32 0, .i .u32 0, .i .u32 0, .i .u32 0, .i .u32 0, .i .u32 48, .i .u32 400, .i .u32 1024, .i .u32 2048, .i .u32 4096, .i .u32 8192, .i .u32 0, .i .u32 0, .nilS, .nilS, .nilS, .nilS, .nilS, .nilS, .nilS, .gs 207 1 24 (natF ofLit7), .gs 208 1 152 (natF ofLit8), .gs 209 1 112 (natF ofLit9), .nilS, .nilS, .nilS, .nilS, .nilS, .nilS]), (40, .arr 139 1 288 (bitsAt litN cdLit 13)), (41, .row 3 1 (0 + 288)), (207, .row 3 1 24), (208, .row 3 1 152), (209, .row 3 1 112)])
      (fun i => i = 0) (fun i => 0) 0 rfl
      ⟨⟨rfl, rfl, rfl, rfl, rfl, rfl, trivial⟩, ⟨rfl, ⟨_, _, rfl, rfl, fun k hk => .inl rfl⟩, rfl, rfl, rfl, rfl, trivial⟩, rfl, by rw [hX]; simp⟩ ?_
    rintro i rfl
    try dsimp only
    repeat' (first |with_reducible (first |refine zag ?_|refine zaa ?_|refine zaf ?_|refine zac ?_|refine zan ?_|refine zai ?_|refine zao ?_)|refine zab rfl rfl True.intro ?_|refine zak rfl ?_|((first |refine zab rfl rfl ?_ ?_);focus (first |omega|((repeat' refine And.intro ?_ ?_)<;>omega)))|refine zat rfl ?_|fail)
    all_goals first
      | exact ⟨14, by decide, by decide, ⟨rfl, rfl, rfl, trivial⟩, ⟨rfl, ⟨_, _, rfl, rfl, fun k hk => .inl (by rw [zaG hk (by decide)])⟩, rfl, rfl, rfl, rfl, trivial⟩, rfl, by rw [hX]; simp⟩
      | (exfalso; omega)
      | trace_state
  · rw [show nextLit 14 = 8192 from rfl, show ([D.ah 40 1 288, .gs 41 1 (0 + 288) (catF 0 (chunk 1 []) 288 (natF litN))] ++ firstLit 14 ++ [.nilS, .nilS, .nilS, .nilS, .nilS, .nilS, .nilS, .gs 207 1 24 (natF ofLit7), .gs 208 1 152 (natF ofLit8), .gs 209 1 112 (natF ofLit9), .nilS, .nilS, .nilS, .nilS, .nilS, .nilS]) = ([.ah 40 1 288, .gs 41 1 (0 + 288) (catF 0 (chunk 1 []) 288 (natF litN)), .i .u32 0, .i .u32 0, .i .u32 0, .i .u32 0, .i .u32 0, .i .u32 0, .i .u32 0, .i .u32 0, .i .u32 48, .i .u32 400, .i .u32 1024, .i .u32 2048, .i .u32 4096, .i .u32 8192, .i .u32 0, .i .u32 0, .nilS, .nilS, .nilS, .nilS, .nilS, .nilS, .nilS, .gs 207 1 24 (natF ofLit7), .gs 208 1 152 (natF ofLit8), .gs 209 1 112 (natF ofLit9), .nilS, .nilS, .nilS, .nilS, .nilS, .nilS] : List D) from rfl]
    repeat' (first |with_reducible (first |refine zag ?_|refine zaa ?_|refine zaf ?_|refine zac ?_|refine zah ?_|refine zae ?_)|refine zab rfl rfl True.intro ?_|refine zas rfl ?_|((first |refine zab rfl rfl ?_ ?_|refine zax rfl ?_ ?_);focus (first |omega|exact le_ rfl|((repeat' refine And.intro ?_ ?_)<;>omega)|((repeat' refine And.intro ?_ ?_)<;>first |rfl|exact le_ rfl)))|fail)
    refine T.loop hL (fun i : Nat => [(8, .pv 45 0), (11, .i .u32 16384), (12, .i .i64 14), (87, .nilS), (88, .i .i64 0), (89, .i .i64 i)]) (fun i => [(45, .var [.ah 40 1 288, .gs 41 1 (0 + 288) (catF 0 (chunk 1 []) 288 (natF litN)), .i .u32 0, .i .u32 0, .i .u32 0, .i .u32 0, .i .u32 0, .i .u32 0, .i .u32 0, .i .u32 0, .i .u32 48, .i .u32 400, .i .u32 1024, .i .u32 2048, .i .u32 4096, .i .u32 8192, .i .u32 16384, .i .u32 0, .nilS, .nilS, .nilS, .nilS, .nilS, .nilS, .nilS, .gs 207 1 24 (natF ofLit7), .gs 208 1 152 (natF ofLit8), .gs 209 1 112 (natF ofLit9), .nilS, .nilS, .nilS, .nilS, .nilS, .nilS]), (40, .arr 139 1 288 (bitsAt litN cdLit 14)), (41, .row 3 1 (0 + 288)), (207, .row 3 1 24), (208, .row 3 1 152), (209, .row 3 1 112)])
      (fun i => i = 0) (fun i => 0) 0 rfl
      ⟨⟨rfl, rfl, rfl, rfl, rfl, rfl, trivial⟩, ⟨rfl, ⟨_, _, rfl, rfl, fun k hk => .inl rfl⟩, rfl, rfl, rfl, rfl, trivial⟩, rfl, by rw [hX]; simp⟩ ?_
    rintro i rfl
    try dsimp only
    repeat' (first |with_reducible (first |refine zag ?_|refine zaa ?_|refine zaf ?_|refine zac ?_|refine zan ?_|refine zai ?_|refine zao ?_)|refine zab rfl rfl True.intro ?_|refine zak rfl ?_|((first |refine zab rfl rfl ?_ ?_);focus (first |omega|((repeat' refine And.intro ?_ ?_)<;>omega)))|refine zat rfl ?_|fail)
    all_goals first
      | exact ⟨15, by decide, by decide, ⟨rfl, rfl, rfl, trivial⟩, ⟨rfl, ⟨_, _, rfl, rfl, fun k hk => .inl (by rw [zaG hk (by decide)])⟩, rfl, rfl, rfl, rfl, trivial⟩, rfl, by rw [hX]; simp⟩
      | (exfalso; omega)
      | trace_state
  · rw [show nextLit 15 = 16384 from rfl, show ([D.ah 40 1 288, .gs 41 1 (0 + 288) (catF 0 (chunk 1 []) 288 (natF litN))] ++ firstLit 15 ++ [.nilS, .nilS, .nilS, .nilS, .nilS, .nilS, .nilS, .gs 207 1 24 (natF ofLit7), .gs 208 1 152 (natF ofLit8), .gs 209 1 112 (natF ofLit9), .nilS, .nilS, .nilS, .nilS, .nilS, .nilS]) = ([.ah 40 1 288, .gs 41 1 (0 + 288) (catF 0 (chunk 1 []) 288 (natF litN)), .i .u32 0, .i .u32 0, .i .u32 0, .i .u32 0, .i .u32 0, .i .u32 0, .i .u32 0, .i .u32 0, .i .u32 48, .i .u32 400, .i .u32 1024, .i .u32 2048, .i .u32 4096, .i .u32 8192, .i .u32 16384, .i .u32 0, .nilS, .nilS, .nilS, .nilS, .nilS, .nilS, .nilS, .gs 207 1 24 (natF ofLit7), .gs 208 1 152 (natF ofLit8), .gs 209 1 112 (natF ofLit9), .nilS, .nilS, .nilS, .nilS, .nilS, .nilS] : List D) from rfl]
    repeat' (first |with_reducible (first |refine zag ?_|refine zaa ?_|refine zaf ?_|refine zac ?_|refine zah ?_|refine zae ?_)|refine zab rfl rfl True.intro ?_|refine zas rfl ?_|((first |refine zab rfl rfl ?_ ?_|refine zax rfl ?_ ?_);focus (first |omega|exact le_ rfl|((repeat' refine And.intro ?_ ?_)<;>omega)|((repeat' refine And.intro ?_ ?_)<;>first |rfl|exact le_ rfl)))|fail)
    refine T.loop hL (fun i : Nat => [(8, .pv 45 0), (11, .i .u32 32768), (12, .i .i64 15), (87, .nilS), (88, .i .i64 0), (89, .i .i64 i)]) (fun i => [(45, .var [.ah 40 1 288, .gs 41 1 (0 + 288) (catF 0 (chunk 1 []) 288 (natF litN)), .i .u32 0, .i .u32 0, .i .u32 0, .i .u32 0, .i .u32 0, .i .u32 0, .i .u32 0, .i .u32 0, .i .u32 48, .i .u32 400, .i .u32 1024, .i .u32 2048, .i .u32 4096, .i .u32 8192, .i .u32 16384, .i .u32 32768, .nilS, .nilS, .nilS, .nilS, .nilS, .nilS, .nilS, .gs 207 1 24 (natF ofLit7), .gs 208 1 152 (natF ofLit8), .gs 209 1 112 (natF ofLit9), .nilS, .nilS, .nilS, .nilS, .nilS, .nilS]), (40, .arr 139 1 288 (bitsAt litN cdLit 15)), (41, .row 3 1 (0 + 288)), (207, .row 3 1 24), (208, .row 3 1 152), (209, .row 3 1 112)])
      (fun i => i = 0) (fun i => 0) 0 rfl
      ⟨⟨rfl, rfl, rfl, rfl, rfl, rfl, trivial⟩, ⟨rfl, ⟨_, _, rfl, rfl, fun k hk => .inl rfl⟩, rfl, rfl, rfl, rfl, trivial⟩, rfl, by rw [hX]; simp⟩ ?_
    rintro i rfl
    try dsimp only
    repeat' (first |with_reducible (first |refine zag ?_|refine zaa ?_|refine zaf ?_|refine zac ?_|refine zan ?_|refine zai ?_|refine zao ?_)|refine zab rfl rfl True.intro ?_|refine zak rfl ?_|((first |refine zab rfl rfl ?_ ?_);focus (first |omega|((repeat' refine And.intro ?_ ?_)<;>omega)))|refine zat rfl ?_|fail)
    all_goals first
      | exact ⟨16, by decide, by decide, ⟨rfl, rfl, rfl, trivial⟩, ⟨rfl, ⟨_, _, rfl, rfl, fun k hk => .inl (by rw [zaG hk (by decide)])⟩, rfl, rfl, rfl, rfl, trivial⟩, rfl, by rw [hX]; simp⟩
      | (exfalso; omega)
      | trace_state
  · rw [show nextLit 16 = 32768 from rfl, show ([D.ah 40 1 288, .gs 41 1 (0 + 288) (catF 0 (chunk 1 []) 288 (natF litN))] ++ firstLit 16 ++ [.nilS, .nilS, .nilS, .nilS, .nilS, .nilS, .nilS, .gs 207 1 24 (natF ofLit7), .gs 208 1 152 (natF ofLit8), .gs 209 1 112 (natF ofLit9), .nilS, .nilS, .nilS, .nilS, .nilS, .nilS]) = ([.ah 40 1 288, .gs 41 1 (0 + 288) (catF 0 (chunk 1 []) 288 (natF litN)), .i .u32 0, .i .u32 0, .i .u32 0, .i .u32 0, .i .u32 0, .i .u32 0, .i .u32 0, .i .u32 0, .i .u32 48, .i .u32 400, .i .u32 1024, .i .u32 2048, .i .u32 4096, .i .u32 8192, .i .u32 16384, .i .u32 32768, .nilS, .nilS, .nilS, .nilS, .nilS, .nilS, .nilS, .gs 207 1 24 (natF ofLit7), .gs 208 1 152 (natF ofLit8), .gs 209 1 112 (natF ofLit9), .nilS, .nilS, .nilS, .nilS, .nilS, .nilS] : List D) from rfl]
    refine T.freezeV 45 0 40 139 1 288 _ (bitsAt litN cdLit 16) rfl rfl rfl ?_
    refine T.weakV 45 _ codeLit rfl rfl (WCs.get ⟨⟨.refl _, rfl⟩, ⟨zhl _ _, rfl⟩, ⟨.refl _, rfl⟩, ⟨.refl _, rfl⟩, ⟨.refl _, rfl⟩, ⟨.refl _, rfl⟩, ⟨.refl _, rfl⟩, ⟨.refl _, rfl⟩, ⟨.refl _, rfl⟩, ⟨.refl _, rfl⟩, ⟨.refl _, rfl⟩, ⟨.refl _, rfl⟩, ⟨.refl _, rfl⟩, ⟨.refl _, rfl⟩, ⟨.refl _, rfl⟩, ⟨.refl _, rfl⟩, ⟨.refl _, rfl⟩, ⟨.refl _, rfl⟩, ⟨.refl _, rfl⟩, ⟨.refl _, rfl⟩, ⟨.refl _, rfl⟩, ⟨.refl _, rfl⟩, ⟨.refl _, rfl⟩, ⟨.refl _, rfl⟩, ⟨.refl _, rfl⟩, ⟨.refl _, rfl⟩, ⟨.refl _, rfl⟩, ⟨.refl _, rfl⟩, ⟨.refl _, rfl⟩, ⟨.refl _, rfl⟩, ⟨.refl _, rfl⟩, ⟨.refl _, rfl⟩, ⟨.refl _, rfl⟩, ⟨.refl _, rfl⟩, trivial⟩) ?_
    refine T.frzV 8 45 0 codeLit rfl rfl rfl ?_
    repeat' (first |with_reducible (first |refine zag ?_|refine zaa ?_|refine zaf ?_|refine zac ?_|refine zar ?_|refine zan ?_|refine zao ?_)|refine zab rfl rfl True.intro ?_|refine zak rfl ?_|refine zat rfl ?_|refine zau rfl ?_|fail)
    all_goals first
      | rfl
      | (exfalso; omega)
      | trace_state
end Go.Proofs.YtkkaamhocpmhkaaGreatDoor.Flow
