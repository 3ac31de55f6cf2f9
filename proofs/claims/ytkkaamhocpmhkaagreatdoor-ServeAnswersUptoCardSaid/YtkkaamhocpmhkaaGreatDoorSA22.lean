/- The texts K24, K25, K26, K34, K35, K36, K39, V9, one behind the other. -/
import Derived.Test.YtkkaamhocpmhkaaGreatDoorSA12
import Derived.Test.YtkkaamhocpmhkaaGreatDoorSA15
import Derived.Test.YtkkaamhocpmhkaaGreatDoorSA19
import Derived.Test.YtkkaamhocpmhkaaGreatDoorSA20
import Derived.Test.YtkkaamhocpmhkaaGreatDoorSA21
namespace Go.Proofs.YtkkaamhocpmhkaaGreatDoor.Flow
open Go
def mtF (l : List (Nat × Nat)) : Nat → List D := fun i => mtD (l.getD i (0, 0))
theorem zlG (a : List (Nat × Nat)) (p : Nat × Nat) (g : Nat → List D) (hg : g 0 = mtD p) : catF a.length (mtF a) 1 g = mtF (a ++ [p]) := by
  funext j
  unfold catF
  by_cases h : j < a.length
  · rw [if_pos h]
    simp [mtF, List.getD_eq_getElem?_getD, List.getElem?_append_left h]
  · rw [if_neg h]
    by_cases h2 : j < a.length + 1
    · obtain rfl : j = a.length := by omega
      rw [if_pos h2, Nat.sub_self, hg]
      simp [mtF, List.getD_eq_getElem?_getD]
    · rw [if_neg h2]
      simp only [mtF, List.getD_eq_getElem?_getD]
      rw [List.getElem?_eq_none (show a.length ≤ j by omega), List.getElem?_eq_none (show (a ++ [p]).length ≤ j by rw [List.length_append]; simp; omega)]
theorem zmF (k : Nat) (a : List (Nat × Nat)) (p : Nat × Nat) (g : Nat → List D) (hg : g 0 = mtD p) : D.gs k 2 (a.length + 1) (catF a.length (mtF a) 1 g) = D.gs k 2 (a ++ [p]).length (mtF (a ++ [p])) := by
  rw [zlG a p g hg, List.length_append]
  rfl
set_option maxRecDepth 100000 in
set_option maxHeartbeats 8000000 in
theorem zgx (b : List UInt8) (hb : b.length ≤ 20000) : Ctr Tryz.prog 157 [.sl 1 b.length (bytesF b)] (.sl 2 (toks b 0).length (mtF (toks b 0))) := by
  refine zaE Tryz.func157 rfl Tryz.ntmps157 Tryz.results157 rfl rfl fun X hL hX => ?_
  repeat' (first |refine T.adopt 3 3 195 2 (mtF []) rfl rfl ?_|with_reducible (first |refine zag ?_|refine zaa ?_|refine zaf ?_|refine zac ?_|refine zae ?_)|refine zab rfl rfl True.intro ?_|fail)
  refine T.loop hL (fun x : Nat × List (Nat × Nat) => [(0, .sl 1 b.length (bytesF b)), (3, .gs 3 2 x.2.length (mtF x.2)), (4, .i .i64 x.1)]) (fun x => [(3, .row 195 2 x.2.length)])
    (fun x => x.1 ≤ b.length ∧ x.2.length ≤ x.1 ∧ x.2 ++ toks b x.1 = toks b 0) (fun x => b.length - x.1) (0, []) ⟨Nat.zero_le _, Nat.le_refl _, rfl⟩
    ⟨⟨rfl, rfl, rfl, trivial⟩, ⟨rfl, trivial⟩, rfl, by rw [hX]; simp⟩ ?_
  rintro ⟨i, k⟩ ⟨g1, g2, g3⟩
  try dsimp only at g1 g2 g3 ⊢
  have hnat : (i : Int).toNat = i := Int.toNat_natCast i
  by_cases hi : i < b.length
  rotate_left
  · have hi' : ¬ (i : Int) < (b.length : Int) := by omega
    rw [zgX hi, List.append_nil] at g3
    rw [← g3]
    repeat' (first |with_reducible (first |refine zag ?_|refine zaa ?_|refine zaf ?_|refine zac ?_|refine zar ?_|refine zan ?_|refine zao ?_)|refine zab rfl rfl True.intro ?_|((first |refine zad rfl ?_ ?_)<;>intro<;>try (first |(exfalso;omega)))|refine zat rfl ?_|refine zau rfl ?_|fail)
    all_goals first
      | rfl
      | (exfalso; omega)
      | trace_state
  have hi' : (i : Int) < (b.length : Int) := by omega
  have cF := zht b i (by omega) g1
  obtain ⟨t1, t2⟩ := zcB hi
  have e := zfe hi
  have htk : tokAt b i = if (findB b i).1 = 0 then (0, (b.getD i 0).toNat) else findB b i := rfl
  generalize findB b i = p at *
  obtain ⟨p1, p2⟩ := p
  dsimp only at htk
  by_cases q : p1 = 0
  · subst q
    rw [if_pos rfl] at htk
    rw [htk] at e t2
    dsimp only at e t2
    have hby := UInt8.toNat_lt (b.getD (i : Int).toNat 0)
    have hw : IntKind.i64.wrap (((b.getD (i : Int).toNat 0).toNat : Nat) : Int) = (((b.getD (i : Int).toNat 0).toNat : Nat) : Int) := by rw [wi6_]; omega
    have hel : (chunk 2 [.i .i64 0, .i .i64 (IntKind.i64.wrap (((b.getD (i : Int).toNat 0).toNat : Nat) : Int))]) 0 = mtD (0, (b.getD i 0).toNat) := by
      rw [hw, hnat]
      rfl
    have g4 : (k ++ [(0, (b.getD i 0).toNat)]) ++ toks b (i + 1) = toks b 0 := by
      rw [← g3, e, List.append_assoc]
      rfl
    clear htk t1 e g3 hw hby
    repeat' (first |refine zaj (f := 208) rfl rfl Tryz.call208 rfl cF ?_|with_reducible (first |refine zag ?_|refine zaa ?_|refine zaf ?_|refine zac ?_|refine zah ?_|refine zae ?_|refine zai ?_)|refine zab rfl rfl True.intro ?_|refine zas rfl ?_|((first |refine zad rfl ?_ ?_)<;>intro<;>try (first |(exfalso;omega)))|((first |refine zab rfl rfl ?_ ?_|refine zaw rfl rfl ?_ ?_|refine zax rfl ?_ ?_);focus (first |omega|exact le_ rfl|((repeat first |rw [wi6_]);(repeat' refine And.intro ?_ ?_)<;>omega)|((repeat' refine And.intro ?_ ?_)<;>first |omega|rfl|exact Nat.le_refl _)))|fail)
    all_goals first
      | exact ⟨(i + 1, k ++ [(0, (b.getD i 0).toNat)]), ⟨by dsimp only; omega, by dsimp only; rw [List.length_append]; simp; omega, g4⟩, by dsimp only; omega, ⟨rfl, zmF 3 k _ _ hel, rfl, trivial⟩, ⟨by rw [List.length_append]; rfl, trivial⟩, rfl, by rw [hX]; simp⟩
      | (exfalso; omega)
      | trace_state
  · rw [if_neg q] at htk
    rw [htk] at e t2
    dsimp only at e t2
    have q' : ¬ (p1 : Int) = 0 := by omega
    have g4 : (k ++ [(p1, p2)]) ++ toks b (i + p1) = toks b 0 := by
      rw [← g3, e, List.append_assoc, show max p1 1 = p1 by omega]
      rfl
    clear htk t1 e g3
    repeat' (first |refine zaj (f := 208) rfl rfl Tryz.call208 rfl cF ?_|with_reducible (first |refine zag ?_|refine zaa ?_|refine zaf ?_|refine zac ?_|refine zah ?_|refine zae ?_|refine zai ?_)|refine zab rfl rfl True.intro ?_|((first |refine zad rfl ?_ ?_)<;>intro<;>try (first |(exfalso;omega)))|((first |refine zab rfl rfl ?_ ?_|refine zaw rfl rfl ?_ ?_|refine zax rfl ?_ ?_);focus (first |omega|exact le_ rfl|((repeat' refine And.intro ?_ ?_)<;>omega)|((repeat' refine And.intro ?_ ?_)<;>first |omega|rfl|exact Nat.le_refl _)))|fail)
    all_goals first
      | exact ⟨(i + p1, k ++ [(p1, p2)]), ⟨by dsimp only; omega, by dsimp only; rw [List.length_append]; simp; omega, g4⟩, by dsimp only; omega, ⟨rfl, zmF 3 k _ _ rfl, rfl, trivial⟩, ⟨by rw [List.length_append]; rfl, trivial⟩, rfl, by rw [hX]; simp⟩
      | (exfalso; omega)
      | trace_state

theorem zhK : Weak (.sl 1 3 (chunk 1 [.b true, .b true, .b false])) (.sl 1 3 (boolF [true, true, false])) := .sl _ _ _ _ (fun i hi => match i, hi with
    | 0, _ => ⟨rfl, rfl⟩ | 1, _ => ⟨rfl, rfl⟩ | 2, _ => ⟨rfl, rfl⟩) fun i j hi hj => match i, j, hi, hj with
    | 0, 0, _, _ => .refl _ | 1, 0, _, _ => .refl _ | 2, 0, _, _ => .refl _
def lenTo (ln : Nat → Nat) (i : Nat) : Nat → List D := fun m => [.i .i64 ((if m < i then ln m else 0 : Nat) : Int)]
theorem zeg (ln : Nat → Nat) {N i : Nat} (h : N ≤ i) : Weak (.sl 1 N (lenTo ln i)) (.sl 1 N (natF ln)) := by
  have e : ∀ k, k < N → lenTo ln i k = natF ln k := fun k hk => by
    unfold lenTo natF
    rw [if_pos (by omega)]
  exact .sl _ _ _ _ (fun k hk => by rw [e k hk]; exact ⟨rfl, rfl⟩) fun k j hk _ => by
    rw [e k hk]
    exact .refl _
theorem zjQ (ln : Nat → Nat) (i m : Nat) : putF (lenTo ln i) i (putCells (lenTo ln i i) 0 (D.i .i64 ((ln i : Nat) : Int)).cells) m = lenTo ln (i + 1) m := by
  unfold putF
  by_cases h : m = i
  · rw [if_pos h, h]
    show [D.i .i64 ((ln i : Nat) : Int)] = [D.i .i64 ((if i < i + 1 then ln i else 0 : Nat) : Int)]
    rw [if_pos (Nat.lt_succ_self i)]
  · rw [if_neg h]
    unfold lenTo
    by_cases h2 : m < i
    · rw [if_pos h2, if_pos (by omega)]
    · rw [if_neg h2, if_neg (by omega)]
theorem zjU (i m : Nat) (hm : m < 32) : putF (lenTo fivN i) (i % 32) (putCells (lenTo fivN i (i % 32)) 0 (D.i .i64 5).cells) m = lenTo fivN (i + 1) m := by
  unfold putF
  by_cases h : m = i % 32
  · rw [if_pos h]
    show [D.i .i64 5] = [D.i .i64 ((if m < i + 1 then 5 else 0 : Nat) : Int)]
    rw [if_pos (by omega)]
    rfl
  · rw [if_neg h]
    unfold lenTo
    by_cases h2 : m < i
    · rw [if_pos h2, if_pos (by omega)]
    · rw [if_neg h2, if_neg (by omega)]
theorem zhj (b : List UInt8) : ∀ fuel at0, ∀ p ∈ toksF b fuel at0, okTok p
  | 0, _, p, h => (List.not_mem_nil h).elim
  | fuel + 1, at0, p, h => by
    rw [toksF] at h
    split at h
    · rename_i q
      rcases List.mem_cons.1 h with rfl | h
      · exact (zcB q).1
      · exact zhj b fuel _ p h
    · exact (List.not_mem_nil h).elim
theorem zfd (b : List UInt8) : ∀ fuel at0, (toksF b fuel at0).length ≤ b.length - at0
  | 0, _ => Nat.zero_le _
  | fuel + 1, at0 => by
    rw [toksF]
    split
    · rename_i q
      have := zfd b fuel (at0 + max (tokAt b at0).1 1)
      rw [List.length_cons]
      omega
    · exact Nat.zero_le _
theorem zil {T : List (Nat × Nat)} {i : Nat} (h : i < T.length) : flatB (T.take (i + 1)) = flatB (T.take i) ++ tokB (T.getD i (0, 0)) := by
  unfold flatB
  rw [List.take_add_one, List.flatMap_append, List.getElem?_eq_getElem h]
  simp [List.getD_eq_getElem?_getD, h]
theorem app1 (k a : List Bool) : catF k.length (boolF k) a.length (boolF a) = boolF (k ++ a) := zfR k a (boolF a) fun _ _ => rfl
theorem zlS (k a : List Bool) : D.gs 75 1 (k.length + a.length) (catF k.length (boolF k) a.length (boolF a)) = D.gs 75 1 (k ++ a).length (boolF (k ++ a)) := by
  rw [app1, List.length_append]
theorem zlI (k a c d e : List Bool) : D.gs 75 1 (k.length + a.length + c.length + d.length + e.length) (catF (k.length + a.length + c.length + d.length) (catF (k.length + a.length + c.length) (catF (k.length + a.length) (catF k.length (boolF k) a.length (boolF a)) c.length (boolF c)) d.length (boolF d)) e.length (boolF e)) = D.gs 75 1 (k ++ a ++ c ++ d ++ e).length (boolF (k ++ a ++ c ++ d ++ e)) := by
  rw [app1, ← List.length_append, app1, ← List.length_append, app1, ← List.length_append, app1, ← List.length_append]
set_option maxRecDepth 100000 in
set_option maxHeartbeats 16000000 in
theorem zhN (b : List UInt8) (hb : b.length ≤ 20000) : Ctr Tryz.prog 107 [.sl 1 b.length (bytesF b), .b false] (.sl 1 (packD b).length (bytesF (packD b))) := by
  have cP := zgx b hb
  have hT1 := zhj b (b.length + 1) 0
  have hT2 := zfd b (b.length + 1) 0
  have hz := zcI b
  have cE := zgI (bitsOf b) (by omega)
  have eT : toks b 0 = toksF b (b.length + 1) 0 := rfl
  rw [← eT] at hT1 hT2
  have eB : bitsOf b = [true, true, false] ++ flatB (toks b 0) ++ litB 256 := rfl
  unfold packD
  generalize hZ : bitsOf b = Z at *
  generalize toks b 0 = tk at *
  clear eT hZ
  have cX := fun n (h : n ≤ 1000) => zhH n h
  have cA := (zfA litN cdLit 288 (by decide) (fun n _ => by have := zcG n; omega) ziL ziV).weak1 (zeg litN (Nat.le_refl 288))
  have cB := (zfA fivN cdFiv 32 (by decide) (fun n _ => by show 1 ≤ 5 ∧ 5 ≤ 15; decide) ziN zjO).weak1 (zeg fivN (show 32 ≤ 288 by decide))
  refine zaE Tryz.func107 rfl Tryz.ntmps107 Tryz.results107 rfl rfl fun X hL hX => ?_
  repeat' (first |with_reducible (first |refine zag ?_|refine zaa ?_|refine zaf ?_|refine zac ?_|refine zah ?_|refine zae ?_)|refine zab rfl rfl True.intro ?_|refine zak rfl ?_|((first |refine zaw rfl rfl ?_ ?_);focus (first |((repeat' refine And.intro ?_ ?_)<;>omega)|((repeat' refine And.intro ?_ ?_)<;>first |omega|rfl)))|fail)
  refine T.loop hL (fun i : Nat => [(0, .sl 1 b.length (bytesF b)), (8, .ah 56 1 288), (9, .ah 57 1 32), (10, .i .i64 i)]) (fun i => [(56, .arr 3 1 288 (lenTo litN i)), (57, .arr 3 1 32 (lenTo fivN i))])
    (fun i => i ≤ 288) (fun i => 288 - i) 0 (Nat.zero_le _)
    ⟨⟨rfl, rfl, rfl, rfl, trivial⟩, ⟨⟨_, _, rfl, rfl, fun m hm => .inl rfl⟩, ⟨_, _, rfl, rfl, fun m hm => .inl rfl⟩, trivial⟩, rfl, by rw [hX]; simp⟩ ?_
  intro i g1
  try dsimp only at g1 ⊢
  have hnat : (i : Int).toNat = i := Int.toNat_natCast i
  by_cases hi : i < 288
  · have hi' : (i : Int) < 288 := by omega
    have c := cX i (by omega)
    have hm32 : ((i : Int) % 32).toNat = i % 32 := by omega
    clear cX cA cB cP cE
    repeat' (first |refine zaj (f := 155) rfl rfl Tryz.call155 rfl c ?_|with_reducible (first |refine zag ?_|refine zaa ?_|refine zaf ?_|refine zac ?_|refine zah ?_|refine zae ?_|refine zai ?_)|refine zab rfl rfl True.intro ?_|((first |refine zad rfl ?_ ?_)<;>intro<;>try (first |(exfalso;omega)))|((first |refine zab rfl rfl ?_ ?_|refine zax rfl ?_ ?_);focus (first |omega|((repeat' refine And.intro ?_ ?_)<;>omega)|((repeat' refine And.intro ?_ ?_)<;>first |omega|rfl|exact Nat.le_refl _)))|fail)
    all_goals first
      | exact ⟨i + 1, by omega, by omega, ⟨rfl, rfl, rfl, rfl, trivial⟩, ⟨⟨_, _, rfl, rfl, fun m hm => .inl (by rw [hnat]; exact zjQ litN i m)⟩, ⟨_, _, rfl, rfl, fun m hm => .inl (by rw [hm32]; exact zjU i m hm)⟩, trivial⟩, rfl, by rw [hX]; simp⟩
      | (exfalso; omega)
      | trace_state
  have hi' : ¬ (i : Int) < 288 := by omega
  have : i = 288 := by omega
  subst this
  clear cX
  refine T.freeze [8] 56 3 1 288 _ rfl ⟨rfl, trivial⟩ ?_
  refine T.freeze [9] 57 3 1 32 _ rfl ⟨rfl, trivial⟩ ?_
  repeat' (first |refine T.tellG 13 75 1 3 (chunk 1 [.b true, .b true, .b false]) (boolF [true, true, false]) rfl zhK ?_|refine zaj (f := 156) rfl rfl Tryz.call156 rfl cA ?_|refine zaj (f := 156) rfl rfl Tryz.call156 rfl cB ?_|refine zaj (f := 157) rfl rfl Tryz.call157 rfl cP ?_|with_reducible (first |refine zag ?_|refine zaa ?_|refine zaf ?_|refine zac ?_|refine zan ?_|refine zae ?_|refine zao ?_)|refine zab rfl rfl True.intro ?_|refine zak rfl ?_|((first |refine zaw rfl rfl ?_ ?_);focus (first |((repeat' refine And.intro ?_ ?_)<;>omega)|((repeat' refine And.intro ?_ ?_)<;>first |omega|rfl)))|refine zat rfl ?_|fail)
  refine T.loop hL (fun x : Nat × List Bool => [(11, .sl 1 288 (strF litN cdLit)), (12, .sl 1 32 (strF fivN cdFiv)), (13, .gs 75 1 x.2.length (boolF x.2)), (14, .sl 2 tk.length (mtF tk)), (15, .i .i64 x.1)]) (fun x => [(75, .row 4 1 x.2.length)])
    (fun x => x.1 ≤ tk.length ∧ x.2.length ≤ 3 + 40 * x.1 ∧ x.2 = [true, true, false] ++ flatB (tk.take x.1)) (fun x => tk.length - x.1) (0, [true, true, false]) ⟨Nat.zero_le _, by decide, rfl⟩
    ⟨⟨rfl, rfl, rfl, rfl, rfl, trivial⟩, ⟨rfl, trivial⟩, rfl, by rw [hX]; simp⟩ ?_
  clear cA cB cP g1 hi hi' hnat
  rintro ⟨i, k⟩ ⟨g1, g2, g3⟩
  try dsimp only at g1 g2 g3 ⊢
  have hnat : (i : Int).toNat = i := Int.toNat_natCast i
  by_cases hi : i < tk.length
  rotate_left
  · have hi' : ¬ (i : Int) < (tk.length : Int) := by omega
    rw [List.take_of_length_le (by omega)] at g3
    rw [← g3] at eB
    have c := zcx (litB 256) (by decide)
    have e := app1 k (litB 256)
    rw [← eB] at e
    have el : k.length + (litB 256).length = Z.length := by rw [eB, List.length_append]
    replace cE : Ctr Tryz.prog 162 [.sl 1 (k.length + (litB 256).length) (catF k.length (boolF k) (litB 256).length (boolF (litB 256)))] (.sl 1 (packB Z).length (bytesF (packB Z))) := by rw [el, e]; exact cE
    have hl256 : (litB 256).length ≤ 9 := zbE 256
    clear eB e el g3
    repeat' (first |refine zaj (f := 158) rfl rfl Tryz.call158 rfl c ?_|refine zaj (f := 162) rfl rfl Tryz.call162 rfl cE ?_|with_reducible (first |refine zag ?_|refine zaa ?_|refine zaf ?_|refine zac ?_|refine zar ?_|refine zan ?_|refine zao ?_)|refine zab rfl rfl True.intro ?_|((first |refine zad rfl ?_ ?_)<;>intro<;>try (first |(exfalso;omega)))|((first |refine zab rfl rfl ?_ ?_|refine zaw rfl rfl ?_ ?_);focus (first |omega|exact le_ rfl|((repeat' refine And.intro ?_ ?_)<;>omega)|((repeat' refine And.intro ?_ ?_)<;>first |omega|rfl)))|refine zat rfl ?_|refine zau rfl ?_|fail)
    all_goals first
      | rfl
      | (exfalso; omega)
      | trace_state
  have hi' : (i : Int) < (tk.length : Int) := by omega
  have hft := zil hi
  have hok : okTok (tk.getD i (0, 0)) := hT1 _ (by
    rw [show tk.getD i (0, 0) = tk[i] by simp [List.getD_eq_getElem?_getD, hi]]
    exact List.getElem_mem hi)
  have hlen := zdc hok
  have g4 : k ++ tokB (tk.getD i (0, 0)) = [true, true, false] ++ flatB (tk.take (i + 1)) := by rw [hft, g3, List.append_assoc]
  clear g3 hft hT1 cE
  rw [← hnat] at hok hlen g4
  have hp : tk.getD (i : Int).toNat (0, 0) = ((tk.getD (i : Int).toNat (0, 0)).1, (tk.getD (i : Int).toNat (0, 0)).2) := rfl
  by_cases q : (tk.getD (i : Int).toNat (0, 0)).1 = 0
  · have q' : (((tk.getD (i : Int).toNat (0, 0)).1 : Nat) : Int) = 0 := by omega
    have hp2 : (tk.getD (i : Int).toNat (0, 0)).2 < 288 := by
      rcases hok with h | h
      · have := h.2
        omega
      · have := h.1
        omega
    have hp2' : (((tk.getD (i : Int).toNat (0, 0)).2 : Nat) : Int) < 288 := by omega
    have ht : tokB (tk.getD (i : Int).toNat (0, 0)) = litB (((tk.getD (i : Int).toNat (0, 0)).2 : Nat) : Int).toNat := by
      rw [Int.toNat_natCast]
      exact if_pos q
    rw [ht] at g4 hlen
    have c := zcx (litB (((tk.getD (i : Int).toNat (0, 0)).2 : Nat) : Int).toNat) (by omega)
    have eg := zlS k (litB (((tk.getD (i : Int).toNat (0, 0)).2 : Nat) : Int).toNat)
    have g5 : (k ++ litB (((tk.getD (i : Int).toNat (0, 0)).2 : Nat) : Int).toNat).length ≤ 3 + 40 * (i + 1) := by
      rw [List.length_append]
      omega
    clear ht hok hp
    repeat' (first |refine zaj (f := 158) rfl rfl Tryz.call158 rfl c ?_|with_reducible (first |refine zag ?_|refine zaa ?_|refine zaf ?_|refine zac ?_|refine zah ?_|refine zan ?_|refine zae ?_|refine zao ?_)|refine zab rfl rfl True.intro ?_|((first |refine zad rfl ?_ ?_)<;>intro<;>try (first |(exfalso;omega)))|((first |refine zab rfl rfl ?_ ?_|refine zaw rfl rfl ?_ ?_);focus (first |omega|exact le_ rfl|((repeat' refine And.intro ?_ ?_)<;>omega)|((repeat' refine And.intro ?_ ?_)<;>first |omega|rfl)))|refine zat rfl ?_|fail)
    all_goals first
      | exact ⟨(i + 1, k ++ litB (((tk.getD (i : Int).toNat (0, 0)).2 : Nat) : Int).toNat), ⟨by dsimp only; omega, g5, g4⟩, by dsimp only; omega, ⟨rfl, rfl, eg, rfl, rfl, trivial⟩, ⟨by rw [List.length_append]; rfl, trivial⟩, rfl, by rw [hX]; simp⟩
      | (exfalso; omega)
      | trace_state
  · have q' : ¬ (((tk.getD (i : Int).toNat (0, 0)).1 : Nat) : Int) = 0 := by omega
    obtain ⟨u1, u2, u3, u4⟩ : 3 ≤ (tk.getD (i : Int).toNat (0, 0)).1 ∧ (tk.getD (i : Int).toNat (0, 0)).1 ≤ 258 ∧ 1 ≤ (tk.getD (i : Int).toNat (0, 0)).2 ∧ (tk.getD (i : Int).toNat (0, 0)).2 ≤ 256 := by
      rcases hok with h | h
      · exact absurd h.1 q
      · exact h
    obtain ⟨a1, a2, a3, a4⟩ := zgD (tk.getD (i : Int).toNat (0, 0)).1 (by omega) u1
    obtain ⟨b1, b2, b3⟩ := zgt (tk.getD (i : Int).toNat (0, 0)).2 (by omega) u3
    have cS := zjE (tk.getD (i : Int).toNat (0, 0)).1 u1 u2
    have cR := zio (tk.getD (i : Int).toNat (0, 0)).2 u3 (by omega)
    have ht : tokB (tk.getD (i : Int).toNat (0, 0)) = litB (symF (tk.getD (i : Int).toNat (0, 0)).1).1 ++ lowB (symF (tk.getD (i : Int).toNat (0, 0)).1).2.1 (symF (tk.getD (i : Int).toNat (0, 0)).1).2.2 ++ fivB (farF (tk.getD (i : Int).toNat (0, 0)).2).1 ++ lowB (farF (tk.getD (i : Int).toNat (0, 0)).2).2.1 (farF (tk.getD (i : Int).toNat (0, 0)).2).2.2 := if_neg q
    rw [ht] at g4 hlen
    clear ht hok hp
    generalize symF (tk.getD (i : Int).toNat (0, 0)).1 = sy at *
    obtain ⟨s, x, n⟩ := sy
    generalize farF (tk.getD (i : Int).toNat (0, 0)).2 = fa at *
    obtain ⟨s2, x2, n2⟩ := fa
    dsimp only at a1 a2 a3 a4 b1 b2 b3 g4 hlen
    unfold tD at cS cR
    dsimp only at cS cR
    have hs1 : litB s = litB ((s : Nat) : Int).toNat := by rw [Int.toNat_natCast]
    have hs2 : fivB s2 = fivB ((s2 : Nat) : Int).toNat := by rw [Int.toNat_natCast]
    rw [hs1, hs2] at g4 hlen
    have w1 : IntKind.u32.wrap ((x : Nat) : Int) = ((x : Nat) : Int) := by rw [IntKind.wrap_u32]; omega
    have w2 : IntKind.u32.wrap ((x2 : Nat) : Int) = ((x2 : Nat) : Int) := by rw [IntKind.wrap_u32]; omega
    have c1 := zcx (litB ((s : Nat) : Int).toNat) (by have := zbE ((s : Nat) : Int).toNat; omega)
    have c2 := zeU x n (by omega) (by omega)
    rw [← w1] at c2
    have c3 := zcx (fivB ((s2 : Nat) : Int).toNat) (by rw [zda]; decide)
    have c4 := zeU x2 n2 (by omega) (by omega)
    rw [← w2] at c4
    have l1 := zbE ((s : Nat) : Int).toNat
    have l2 : (lowB x n).length ≤ 6 := by rw [zbh]; exact a4
    have l3 : (fivB ((s2 : Nat) : Int).toNat).length = 5 := zda _
    have l4 : (lowB x2 n2).length ≤ 14 := by rw [zbh]; exact b3
    have hs' : ((s : Nat) : Int) < 288 := by omega
    have hs2' : ((s2 : Nat) : Int) < 32 := by omega
    have eg := zlI k (litB ((s : Nat) : Int).toNat) (lowB x n) (fivB ((s2 : Nat) : Int).toNat) (lowB x2 n2)
    have er : k.length + (litB ((s : Nat) : Int).toNat).length + (lowB x n).length + (fivB ((s2 : Nat) : Int).toNat).length + (lowB x2 n2).length = (k ++ litB ((s : Nat) : Int).toNat ++ lowB x n ++ fivB ((s2 : Nat) : Int).toNat ++ lowB x2 n2).length := by simp only [List.length_append]
    have g5 : (k ++ litB ((s : Nat) : Int).toNat ++ lowB x n ++ fivB ((s2 : Nat) : Int).toNat ++ lowB x2 n2).length ≤ 3 + 40 * (i + 1) := by
      rw [← er]
      omega
    have g6 : k ++ litB ((s : Nat) : Int).toNat ++ lowB x n ++ fivB ((s2 : Nat) : Int).toNat ++ lowB x2 n2 = [true, true, false] ++ flatB (tk.take (i + 1)) := by
      exact Eq.trans (by simp only [List.append_assoc]) g4
    clear g4 hlen w1 w2 hs1 hs2
    repeat' (first |refine zaj (f := 159) rfl rfl Tryz.call159 rfl cS ?_|refine zaj (f := 160) rfl rfl Tryz.call160 rfl cR ?_|refine zaj (f := 158) rfl rfl Tryz.call158 rfl c1 ?_|refine zaj (f := 158) rfl rfl Tryz.call158 rfl c3 ?_|refine zaj (f := 161) rfl rfl Tryz.call161 rfl c2 ?_|refine zaj (f := 161) rfl rfl Tryz.call161 rfl c4 ?_|with_reducible (first |refine zag ?_|refine zaa ?_|refine zaf ?_|refine zac ?_|refine zah ?_|refine zae ?_|refine zai ?_)|refine zab rfl rfl True.intro ?_|((first |refine zad rfl ?_ ?_)<;>intro<;>try (first |(exfalso;omega)))|((first |refine zab rfl rfl ?_ ?_|refine zaw rfl rfl ?_ ?_);focus (first |omega|exact le_ rfl|((repeat' refine And.intro ?_ ?_)<;>omega)|((repeat' refine And.intro ?_ ?_)<;>first |omega|rfl)))|fail)
    all_goals first
      | exact ⟨(i + 1, k ++ litB ((s : Nat) : Int).toNat ++ lowB x n ++ fivB ((s2 : Nat) : Int).toNat ++ lowB x2 n2), ⟨by dsimp only; omega, g5, g6⟩, by dsimp only; omega, ⟨rfl, rfl, eg, rfl, rfl, trivial⟩, ⟨congrArg (fun q => some (Own.row 4 1 q)) er, trivial⟩, rfl, by rw [hX]; simp⟩
      | (exfalso; omega)
      | trace_state

def leT (v i : Nat) : List UInt8 := (List.range i).map fun k => UInt8.ofNat (v / 256 ^ k % 256)
theorem zkG (v : Nat) : leT v 4 = le4 v := by
  show [UInt8.ofNat (v / 256 ^ 0 % 256), UInt8.ofNat (v / 256 ^ 1 % 256), UInt8.ofNat (v / 256 ^ 2 % 256), UInt8.ofNat (v / 256 ^ 3 % 256)] = _
  rw [Nat.pow_zero, Nat.div_one, show 256 ^ 1 = 256 by decide, show 256 ^ 2 = 65536 by decide, show 256 ^ 3 = 16777216 by decide]
  rfl
theorem zlc (v i : Nat) : leT v (i + 1) = leT v i ++ [UInt8.ofNat (v / 256 ^ i % 256)] := by
  unfold leT
  rw [List.range_succ, List.map_append]
  rfl
theorem zmp (v i : Nat) : (leT v i).length = i := by
  unfold leT
  rw [List.length_map, List.length_range]
set_option maxRecDepth 100000 in
set_option maxHeartbeats 4000000 in
theorem zfn (v : Nat) (hv : v < 4294967296) : Ctr Tryz.prog 108 [.i .u32 ((v : Nat) : Int), .i .i64 4] (.sl 1 (le4 v).length (bytesF (le4 v))) := by
  refine zaE Tryz.func108 rfl Tryz.ntmps108 Tryz.results108 rfl rfl fun X hL hX => ?_
  rw [← zkG]
  repeat' (first |refine T.adopt 5 5 5 1 (bytesF []) rfl rfl ?_|with_reducible (first |refine zag ?_|refine zaa ?_|refine zaf ?_|refine zac ?_|refine zae ?_)|refine zab rfl rfl True.intro ?_|fail)
  refine T.loop hL (fun x : Nat × Nat × List UInt8 => [(0, .i .u32 x.2.1), (1, .i .i64 4), (5, .gs 5 1 x.2.2.length (bytesF x.2.2)), (6, .i .i64 x.1)]) (fun x => [(5, .row 5 1 x.2.2.length)])
    (fun x => x.1 ≤ 4 ∧ x.2.1 = v / 256 ^ x.1 ∧ x.2.2 = leT v x.1) (fun x => 4 - x.1) (0, v, []) ⟨Nat.zero_le _, (Nat.div_one v).symm, rfl⟩
    ⟨⟨rfl, rfl, rfl, rfl, trivial⟩, ⟨rfl, trivial⟩, rfl, by rw [hX]; simp⟩ ?_
  rintro ⟨i, w, s⟩ ⟨g1, g2, g3⟩
  try dsimp only at g1 g2 g3 ⊢
  have hw : w < 4294967296 := by rw [g2]; exact Nat.lt_of_le_of_lt (Nat.div_le_self ..) hv
  have hll : s.length = i := by rw [g3, zmp]
  by_cases hi : i < 4
  · have hi' : (i : Int) < 4 := by omega
    have e1 : w / 256 = v / 256 ^ (i + 1) := by rw [g2, Nat.div_div_eq_div_mul, Nat.pow_succ]
    have e2 : s ++ [UInt8.ofNat (w % 256)] = leT v (i + 1) := by rw [zlc, ← g3, g2]
    have e3 : ((w : Nat) : Int) / 256 = ((w / 256 : Nat) : Int) := by omega
    have hwr : IntKind.u32.wrap (((w : Nat) : Int) / 256) = ((w : Nat) : Int) / 256 := by rw [IntKind.wrap_u32]; omega
    have hby : IntKind.u8.wrap (((w : Nat) : Int) % 256) = (((UInt8.ofNat (w % 256)).toNat : Nat) : Int) := by
      rw [IntKind.wrap_u8, UInt8.toNat_ofNat']
      omega
    have hcat := zeQ s [UInt8.ofNat (w % 256)] (chunk 1 [.i .u8 (IntKind.u8.wrap (((w : Nat) : Int) % 256))]) (fun k hk => by
      obtain rfl : k = 0 := by simpa using hk
      show [D.i .u8 (IntKind.u8.wrap (((w : Nat) : Int) % 256))] = [D.i .u8 (((UInt8.ofNat (w % 256)).toNat : Nat) : Int)]
      rw [hby])
    have hg : D.gs 5 1 (s.length + 1) (catF s.length (bytesF s) 1 (chunk 1 [.i .u8 (IntKind.u8.wrap (((w : Nat) : Int) % 256))])) = D.gs 5 1 (s ++ [UInt8.ofNat (w % 256)]).length (bytesF (s ++ [UInt8.ofNat (w % 256)])) := by
      rw [List.length_append]
      exact congrArg (D.gs 5 1 (s.length + 1)) hcat
    clear g2 g3 hcat hby
    repeat' (first |with_reducible (first |refine zag ?_|refine zaa ?_|refine zaf ?_|refine zac ?_|refine zah ?_|refine zae ?_|refine zai ?_)|refine zab rfl rfl True.intro ?_|((first |refine zad rfl ?_ ?_)<;>intro<;>try (first |(exfalso;omega)))|((first |refine zab rfl rfl ?_ ?_|refine zaw rfl rfl ?_ ?_);focus (first |(exact ⟨by omega, by decide, hwr⟩)|omega|((repeat first |rw [wrap_u8]);(repeat' refine And.intro ?_ ?_)<;>omega)|((repeat' refine And.intro ?_ ?_)<;>first |omega|rfl)))|fail)
    all_goals first
      | exact ⟨(i + 1, w / 256, s ++ [UInt8.ofNat (w % 256)]), ⟨by dsimp only; omega, e1, e2⟩, by dsimp only; omega, ⟨congrArg (D.i .u32) e3, rfl, hg, rfl, trivial⟩, ⟨by rw [List.length_append]; rfl, trivial⟩, rfl, by rw [hX]; simp⟩
      | (exfalso; omega)
      | trace_state
  have hi' : ¬ (i : Int) < 4 := by omega
  have : i = 4 := by omega
  subst this
  rw [← g3]
  repeat' (first |with_reducible (first |refine zag ?_|refine zaa ?_|refine zaf ?_|refine zac ?_|refine zar ?_|refine zan ?_|refine zao ?_)|refine zab rfl rfl True.intro ?_|refine zak rfl ?_|refine zat rfl ?_|refine zau rfl ?_|fail)
  all_goals first
    | rfl
    | (exfalso; omega)
    | trace_state
theorem zkN (b : List UInt8) : crcOf b < 4294967296 := by
  unfold crcOf
  omega
theorem zgH {a b : List UInt8} {f : Nat → List D} {n : Nat} (hn : n = a.length) (hf : ∀ i, i < n → f i = bytesF a i) : ∀ i, i < n + b.length → catF n f b.length (bytesF b) i = bytesF (a ++ b) i := fun i hi => by
  subst hn
  unfold catF
  by_cases h : i < a.length
  · rw [if_pos h, hf i h]
    simp [bytesF, List.getD_eq_getElem?_getD, List.getElem?_append_left h]
  · rw [if_neg h, if_pos hi]
    simp [bytesF, List.getD_eq_getElem?_getD, List.getElem?_append_right (show a.length ≤ i by omega)]
theorem zhB {n : Nat} {f : Nat → List D} {a : List UInt8} (hn : n = a.length) (hf : ∀ i, i < n → f i = bytesF a i) : Weak (.sl 1 n f) (.sl 1 a.length (bytesF a)) := by
  subst hn
  exact .sl _ _ _ _ (fun k hk => by rw [hf k hk]; exact ⟨rfl, rfl⟩) fun k j hk _ => by
    rw [hf k hk]
    exact .refl _
set_option maxRecDepth 100000 in
set_option maxHeartbeats 4000000 in
theorem ziD (b : List UInt8) (hb : b.length ≤ 20000) : Ctr Tryz.prog 58 [.sl 1 b.length (bytesF b)] (.sl 1 (wrapG b).length (bytesF (wrapG b))) := by
  have cD := zhN b hb
  have hl := zds b
  have cO := zeh b.length (bytesF b) (zbj b) (by omega)
  rw [zfG] at cO
  have hc : crcOf b < 4294967296 := zkN b
  have c1 := zfn (crcOf b) hc
  have c2 := zfn b.length (by omega)
  have hw : IntKind.u32.wrap ((b.length : Nat) : Int) = ((b.length : Nat) : Int) := by rw [IntKind.wrap_u32]; omega
  rw [← hw] at c2
  have q1 : (le4 (crcOf b)).length = 4 := rfl
  have q2 : (le4 b.length).length = 4 := rfl
  unfold wrapG
  generalize packD b = d at *
  generalize le4 (crcOf b) = x1 at *
  generalize le4 b.length = x2 at *
  refine zaE Tryz.func58 rfl Tryz.ntmps58 Tryz.results58 rfl rfl fun X hL hX => ?_
  repeat' (first |refine zaj (f := 107) rfl rfl Tryz.call107 rfl cD ?_|refine zaj (f := 106) rfl rfl Tryz.call106 rfl cO ?_|refine zaj (f := 108) rfl rfl Tryz.call108 rfl c1 ?_|refine zaj (f := 108) rfl rfl Tryz.call108 rfl c2 ?_|with_reducible (first |refine zag ?_|refine zaa ?_|refine zaf ?_|refine zac ?_|refine zar ?_)|refine zab rfl rfl True.intro ?_|((first |refine zaw rfl rfl ?_ ?_);focus (first |((repeat' refine And.intro ?_ ?_)<;>omega)|((repeat' refine And.intro ?_ ?_)<;>first |omega|rfl)))|refine zfT rfl ?_|fail)
  all_goals first
    | (exfalso; omega)
    | (refine zhB (by simp only [List.length_append]; rfl) (zgH (by simp only [List.length_append]; rfl) (zgH (by simp only [List.length_append]; rfl) (zgH (a := headZ) rfl fun i hi => ?_)))
       have : i = 0 ∨ i = 1 ∨ i = 2 ∨ i = 3 ∨ i = 4 ∨ i = 5 ∨ i = 6 ∨ i = 7 ∨ i = 8 ∨ i = 9 := by omega
       rcases this with rfl | rfl | rfl | rfl | rfl | rfl | rfl | rfl | rfl | rfl <;> rfl)
    | trace_state

section
variable {X : Ctx} {fr : Fr} {ow : Ow}
theorem zch {rs : List ResultVar} {d d2 : D} {lo : Ow} (h : resU B fr ow rs = some d2) (he : Weak d2 d) (hlo : Stay (leOw ow lo)) : Rtn (EndsM rs d lo) fr ow := by
  unfold Rtn
  exact ⟨d2, h, he, hlo.out⟩
end
theorem zcL {n : Nat} {f : Nat → List D} (l : List (List UInt8 × List UInt8)) (hn : n = l.length) (h : ∀ i, i < n → f i = hdF l i) : Weak (.sl 2 n f) (.sl 2 l.length (hdF l)) := by
  subst hn
  exact .sl _ _ _ _ (fun i hi => by rw [h i hi]; exact ⟨rfl, rfl⟩) fun i j hi hj => by rw [h i hi]; exact .refl _
def smF (any : Bool) (tags : List (List UInt8)) (tag : List UInt8) (i : Nat) : Bool := any || (tags.take i).any (fun t => t == tag)
theorem zkt (any : Bool) {tags : List (List UInt8)} (tag : List UInt8) {i : Nat} (h : i < tags.length) : smF any tags tag (i + 1) = (smF any tags tag i || (tags.getD i [] == tag)) := by
  unfold smF
  rw [List.take_add_one, List.getElem?_eq_getElem h, List.getD_eq_getElem?_getD, List.getElem?_eq_getElem h, List.any_append]
  simp [Bool.or_assoc]
theorem zlK (any : Bool) (tags : List (List UInt8)) (tag : List UInt8) : smF any tags tag tags.length = true ↔ any = true ∨ tag ∈ tags := by
  unfold smF
  rw [List.take_length]
  simp
set_option maxRecDepth 100000 in
set_option maxHeartbeats 8000000 in
theorem zgK (r : ReqR) (body kind : List UInt8) (st : Int) (hb : body.length ≤ 400) (ht : r.tags.length ≤ 1000) :
    Ctr Tryz.prog 26 [.ag (reqP r), .sl 1 body.length (bytesF body), .s kind, .i .i64 st] (.ag (rspP (ansR r body kind st))) := by
  obtain ⟨method, path, gz, any, tags⟩ := r
  dsimp only at ht
  have cT : Ctr Tryz.prog 57 [.sl 1 body.length (bytesF body), .b gz] (.s (tagR body gz)) := zjm body.length (bytesF body) gz (fun j _ => ⟨_, rfl⟩) (by omega)
  have cW := ziD body (by omega)
  have lW := zdw body
  unfold ansR fullR
  dsimp only
  generalize tagR body gz = tag at *
  generalize wrapG body = wb at *
  refine Ctr.of (ow' := []) (zbG (ids := []) (ids2 := []) Tryz.func26 rfl Tryz.ntmps26 Tryz.results26 rfl rfl rfl (fun _ h => by cases h) rfl rfl fun X hL hX => ?_) rfl
  unfold reqP
  dsimp only
  by_cases h1 : st = 204
  · rw [if_pos h1]
    subst h1
    repeat' (first |with_reducible (first |refine zag ?_|refine zaa ?_|refine zaf ?_|refine zac ?_|refine zar ?_|refine zaB ?_)|refine zab rfl rfl True.intro ?_|refine zas rfl ?_|((first |refine zaw rfl rfl ?_ ?_|refine zax rfl ?_ ?_);focus (first |((repeat' refine And.intro ?_ ?_)<;>omega)|((repeat' refine And.intro ?_ ?_)<;>first |rfl|exact Nat.le_refl _)))|refine zch rfl ?_ ⟨trivial⟩|fail)
    all_goals exact .ag3 (.refl _) (.nil _ _) (.nil _ _)
  rw [if_neg h1]
  by_cases h2 : st = 200
  rotate_left
  · rw [if_neg h2]
    repeat' (first |with_reducible (first |refine zag ?_|refine zaa ?_|refine zaf ?_|refine zac ?_|refine zar ?_|refine zah ?_|refine zaB ?_)|refine zab rfl rfl True.intro ?_|((first |refine zad rfl ?_ ?_|refine zdg rfl ?_ ?_)<;>intro<;>try (first |contradiction))|((first |refine zaw rfl rfl ?_ ?_|refine zax rfl ?_ ?_);focus (first |((repeat' refine And.intro ?_ ?_)<;>omega)|((repeat' refine And.intro ?_ ?_)<;>first |omega|rfl|exact Nat.le_refl _)))|refine zch rfl ?_ ⟨trivial⟩|fail)
    all_goals exact .ag3 (.refl _) (zcL _ rfl fun i hi => match i, hi with | 0, _ => rfl) (.nil _ _)
  rw [if_pos h2]
  subst h2
  repeat' (first |refine zaj (f := 57) rfl rfl Tryz.call57 rfl cT ?_|with_reducible (first |refine zag ?_|refine zaa ?_|refine zaf ?_|refine zac ?_|refine zah ?_|refine zae ?_)|refine zab rfl rfl True.intro ?_|refine zak rfl ?_|((first |refine zab rfl rfl ?_ ?_|refine zaw rfl rfl ?_ ?_);focus (first |exact le_ rfl|((repeat' refine And.intro ?_ ?_)<;>omega)|((repeat' refine And.intro ?_ ?_)<;>first |rfl)))|fail)
  have hs0 : smF any tags tag 0 = any := by unfold smF; simp
  refine T.loop hL (fun i : Nat => [(1, .sl 1 body.length (bytesF body)), (2, .s kind), (3, .i .i64 200), (4, .pv 4 0), (8, .pv 8 0), (9, .s tag), (10, .b (smF any tags tag i)), (11, .i .i64 i)])
    (fun i => [(4, .var (reqP ⟨method, path, gz, any, tags⟩)), (8, .var [.i .i64 0, .nilS, .nilS])]) (fun i => i ≤ tags.length) (fun i => tags.length - i) 0 (Nat.zero_le _)
    ⟨⟨rfl, rfl, rfl, rfl, rfl, rfl, by rw [hs0]; rfl, rfl, trivial⟩, ⟨rfl, rfl, trivial⟩, rfl, by rw [hX]; simp⟩ ?_
  intro i g1
  try dsimp only at g1 ⊢
  unfold reqP
  dsimp only
  have hnat : (i : Int).toNat = i := Int.toNat_natCast i
  by_cases hi : i < tags.length
  · have hi' : (i : Int) < (tags.length : Int) := by omega
    have hs := zkt any tag hi
    generalize smF any tags tag i = sm at *
    cases sm with
    | true =>
      repeat' (first |with_reducible (first |refine zag ?_|refine zaa ?_|refine zaf ?_|refine zac ?_|refine zah ?_|refine zae ?_|refine zai ?_)|refine zab rfl rfl True.intro ?_|refine zay rfl rfl rfl ?_|((first |refine zad rfl ?_ ?_)<;>intro<;>try (first |contradiction))|((first |refine zab rfl rfl ?_ ?_);focus (first |omega|exact le_ rfl|((repeat' refine And.intro ?_ ?_)<;>omega)))|fail)
      all_goals first
        | exact ⟨i + 1, by omega, by omega, ⟨rfl, rfl, rfl, rfl, rfl, rfl, by rw [hs]; rfl, rfl, trivial⟩, ⟨rfl, rfl, trivial⟩, rfl, by rw [hX]; simp⟩
        | trace_state
    | false =>
      repeat' (first |with_reducible (first |refine zag ?_|refine zaa ?_|refine zaf ?_|refine zac ?_|refine zah ?_|refine zae ?_|refine zai ?_)|refine zab rfl rfl True.intro ?_|refine zam rfl rfl rfl rfl True.intro ?_|((first |refine zad rfl ?_ ?_)<;>intro<;>try (first |contradiction))|((first |refine zab rfl rfl ?_ ?_|refine zam rfl rfl rfl rfl ?_ ?_);focus (first |omega|exact le_ rfl|((repeat' refine And.intro ?_ ?_)<;>omega)))|fail)
      all_goals first
        | exact ⟨i + 1, by omega, by omega, ⟨rfl, rfl, rfl, rfl, rfl, rfl, by rw [hs, Bool.false_or]; exact congrArg D.b (by rw [hnat]), rfl, trivial⟩, ⟨rfl, rfl, trivial⟩, rfl, by rw [hX]; simp⟩
        | trace_state
  · have hi' : ¬ (i : Int) < (tags.length : Int) := by omega
    obtain rfl : i = tags.length := by omega
    have hs := zlK any tags tag
    generalize smF any tags tag tags.length = sm at *
    cases sm with
    | true =>
      rw [if_pos (hs.1 rfl)]
      repeat' (first |with_reducible (first |refine zag ?_|refine zaa ?_|refine zaf ?_|refine zac ?_|refine zar ?_|refine zan ?_|refine zao ?_|refine zaB ?_)|refine zab rfl rfl True.intro ?_|refine zas rfl ?_|((first |refine zad rfl ?_ ?_)<;>intro<;>try (first |contradiction))|((first |refine zab rfl rfl ?_ ?_|refine zaw rfl rfl ?_ ?_|refine zax rfl ?_ ?_);focus (first |exact le_ rfl|((repeat' refine And.intro ?_ ?_)<;>omega)|((repeat' refine And.intro ?_ ?_)<;>first |omega|rfl|exact Nat.le_refl _)))|refine zat rfl ?_|refine zch rfl ?_ ⟨trivial⟩|fail)
      all_goals exact .ag3 (.refl _) (zcL _ rfl fun i hi => match i, hi with | 0, _ => rfl | 1, _ => rfl) (.nil _ _)
    | false =>
      rw [if_neg (fun h => by cases hs.2 h)]
      clear hs
      by_cases h5 : method = tHEAD
      · subst h5
        rw [if_pos rfl]
        cases gz with
        | true =>
          rw [if_pos rfl, if_pos rfl]
          have cI := zbi (wb.length : Int) (by omega) (by omega)
          generalize Lib.itoa (wb.length : Int) = it at *
          repeat' (first |refine zaj (f := 58) rfl rfl Tryz.call58 rfl cW ?_|refine zaj (f := 59) rfl rfl Tryz.call59 rfl cI ?_|with_reducible (first |refine zag ?_|refine zaa ?_|refine zaf ?_|refine zac ?_|refine zar ?_|refine zah ?_|refine zan ?_|refine zao ?_|refine zaH ?_)|refine zab rfl rfl True.intro ?_|refine zas rfl ?_|refine zak rfl ?_|((first |refine zad rfl ?_ ?_)<;>intro<;>try (first |contradiction))|((first |refine zab rfl rfl ?_ ?_|refine zaw rfl rfl ?_ ?_|refine zax rfl ?_ ?_);focus (first |exact le_ rfl|((repeat' refine And.intro ?_ ?_)<;>omega)|((repeat' refine And.intro ?_ ?_)<;>first |omega|rfl|exact Nat.le_refl _|exact le_ rfl)))|refine zat rfl ?_|with_reducible refine ⟨by kernel_rfl, ?_⟩|refine zch rfl ?_ ⟨trivial⟩|fail)
          all_goals exact .ag3 (.refl _) (zcL _ rfl fun i hi => match i, hi with | 0, _ => rfl | 1, _ => rfl | 2, _ => rfl | 3, _ => rfl | 4, _ => rfl) (.nil _ _)
        | false =>
          rw [if_neg (by decide), if_neg (by decide)]
          have cI := zbi (body.length : Int) (by omega) (by omega)
          generalize Lib.itoa (body.length : Int) = it at *
          repeat' (first |refine zaj (f := 59) rfl rfl Tryz.call59 rfl cI ?_|with_reducible (first |refine zag ?_|refine zaa ?_|refine zaf ?_|refine zac ?_|refine zar ?_|refine zah ?_|refine zan ?_|refine zao ?_|refine zaH ?_)|refine zab rfl rfl True.intro ?_|refine zas rfl ?_|refine zak rfl ?_|((first |refine zad rfl ?_ ?_)<;>intro<;>try (first |contradiction))|((first |refine zab rfl rfl ?_ ?_|refine zaw rfl rfl ?_ ?_|refine zax rfl ?_ ?_);focus (first |exact le_ rfl|((repeat' refine And.intro ?_ ?_)<;>omega)|((repeat' refine And.intro ?_ ?_)<;>first |omega|rfl|exact Nat.le_refl _|exact le_ rfl)))|refine zat rfl ?_|with_reducible refine ⟨by kernel_rfl, ?_⟩|refine zch rfl ?_ ⟨trivial⟩|fail)
          all_goals exact .ag3 (.refl _) (zcL _ rfl fun i hi => match i, hi with | 0, _ => rfl | 1, _ => rfl | 2, _ => rfl | 3, _ => rfl) (.nil _ _)
      · rw [if_neg h5]
        have h6 : ¬ (method == tHEAD) = true := fun h => h5 (by simpa using h)
        cases gz with
        | true =>
          rw [if_pos rfl, if_pos rfl]
          have cI := zbi (wb.length : Int) (by omega) (by omega)
          generalize Lib.itoa (wb.length : Int) = it at *
          repeat' (first |refine zaj (f := 58) rfl rfl Tryz.call58 rfl cW ?_|refine zaj (f := 59) rfl rfl Tryz.call59 rfl cI ?_|with_reducible (first |refine zag ?_|refine zaa ?_|refine zaf ?_|refine zac ?_|refine zar ?_|refine zah ?_|refine zan ?_|refine zao ?_|refine zaH ?_)|refine zab rfl rfl True.intro ?_|refine zas rfl ?_|refine zak rfl ?_|((first |refine zad rfl ?_ ?_|refine zeJ rfl ?_ ?_)<;>intro<;>try (first |contradiction))|((first |refine zab rfl rfl ?_ ?_|refine zaw rfl rfl ?_ ?_|refine zax rfl ?_ ?_);focus (first |exact le_ rfl|((repeat' refine And.intro ?_ ?_)<;>omega)|((repeat' refine And.intro ?_ ?_)<;>first |omega|rfl|exact Nat.le_refl _|exact le_ rfl)))|refine zat rfl ?_|with_reducible refine ⟨by kernel_rfl, ?_⟩|refine zch rfl ?_ ⟨trivial⟩|fail)
          all_goals exact .ag3 (.refl _) (zcL _ rfl fun i hi => match i, hi with | 0, _ => rfl | 1, _ => rfl | 2, _ => rfl | 3, _ => rfl | 4, _ => rfl) (.refl _)
        | false =>
          rw [if_neg (by decide), if_neg (by decide)]
          have cI := zbi (body.length : Int) (by omega) (by omega)
          generalize Lib.itoa (body.length : Int) = it at *
          repeat' (first |refine zaj (f := 59) rfl rfl Tryz.call59 rfl cI ?_|with_reducible (first |refine zag ?_|refine zaa ?_|refine zaf ?_|refine zac ?_|refine zar ?_|refine zah ?_|refine zan ?_|refine zao ?_|refine zaH ?_)|refine zab rfl rfl True.intro ?_|refine zak rfl ?_|((first |refine zad rfl ?_ ?_|refine zeJ rfl ?_ ?_)<;>intro<;>try (first |contradiction))|((first |refine zab rfl rfl ?_ ?_|refine zaw rfl rfl ?_ ?_|refine zax rfl ?_ ?_);focus (first |exact le_ rfl|((repeat' refine And.intro ?_ ?_)<;>omega)|((repeat' refine And.intro ?_ ?_)<;>first |omega|rfl|exact Nat.le_refl _|exact le_ rfl)))|refine zat rfl ?_|with_reducible refine ⟨by kernel_rfl, ?_⟩|refine zch rfl ?_ ⟨trivial⟩|fail)
          all_goals exact .ag3 (.refl _) (zcL _ rfl fun i hi => match i, hi with | 0, _ => rfl | 1, _ => rfl | 2, _ => rfl | 3, _ => rfl) (.refl _)

abbrev tHttp : List UInt8 := [72, 84, 84, 80, 47, 49, 46, 49, 32]
abbrev tCrlf : List UInt8 := [13, 10]
def headB (st : Int) : List UInt8 := tHttp ++ Lib.itoa st ++ [32] ++ rsnF st ++ tCrlf
def lineB (h : List UInt8 × List UInt8) : List UInt8 := h.1 ++ [58, 32] ++ h.2 ++ tCrlf
def linesB (l : List (List UInt8 × List UInt8)) : List UInt8 := (l.map lineB).flatten
def sentB (x : RspR) : List UInt8 := headB x.st ++ linesB x.hs ++ tCrlf ++ x.body
theorem zdE (n : Int) (hn : n.natAbs < 10 ^ 19) : (Lib.itoa n).length ≤ 20 := by
  have h1 := zcP n.natAbs 19 hn (by omega)
  rw [zgk, List.length_append]
  have h3 : (sgL (decide (n < 0))).length ≤ 1 := by
    unfold sgL
    split <;> simp
  omega
theorem zgb (s : Int) : (rsnF s).length ≤ 21 := by
  unfold rsnF
  (repeat' split) <;> decide
theorem zfJ (s : Int) (h0 : -9223372036854775808 ≤ s) (h1 : s ≤ 9223372036854775807) : (headB s).length ≤ 53 := by
  have := zdE s (by omega)
  have := zgb s
  unfold headB
  simp only [List.length_append, List.length_cons, List.length_nil]
  omega
theorem zcJ {l : List (List UInt8 × List UInt8)} {i : Nat} (hi : i < l.length) : linesB (l.take (i + 1)) = linesB (l.take i) ++ lineB (l.getD i ([], [])) := by
  unfold linesB
  rw [List.take_add_one, List.getElem?_eq_getElem hi, List.getD_eq_getElem?_getD, List.getElem?_eq_getElem hi, List.map_append, List.flatten_append]
  show _ ++ (lineB l[i] ++ []) = _
  rw [List.append_nil]
  rfl
theorem zeK {h : List UInt8 × List UInt8} (hq : h.1.length + h.2.length ≤ 100) : (lineB h).length ≤ 104 := by
  unfold lineB
  simp only [List.length_append, List.length_cons, List.length_nil]
  omega
theorem zdD {l : List (List UInt8 × List UInt8)} (hq : ∀ i, (l.getD i ([], [])).1.length + (l.getD i ([], [])).2.length ≤ 100) : ∀ i, i ≤ l.length → (linesB (l.take i)).length ≤ 104 * i
  | 0, _ => by simp [linesB]
  | i + 1, h => by
    have ih := zdD hq i (by omega)
    have := zeK (hq i)
    rw [zcJ (by omega), List.length_append]
    omega

set_option maxRecDepth 100000 in
set_option maxHeartbeats 8000000 in
theorem zgB (x : RspR) (h0 : -9223372036854775808 ≤ x.st ∧ x.st < 9223372036854775808) (h1 : x.hs.length ≤ 20) (h2 : x.body.length ≤ 1000) (hq : ∀ i, (x.hs.getD i ([], [])).1.length + (x.hs.getD i ([], [])).2.length ≤ 100) :
    Ctr Tryz.prog 27 [.ag (rspP x)] (.sl 1 (sentB x).length (bytesF (sentB x))) := by
  refine CtrO.shutB (k := 16) (e := 5) ?_
  obtain ⟨st, hs, body⟩ := x
  dsimp only at h0 h1 h2 hq
  have cI := zbz st (by omega) (by omega)
  have cR := zic st
  have l1 := zdE st (by omega)
  have l2 := zgb st
  have l3 := zfJ st (by omega) (by omega)
  have hll := zdD hq
  unfold sentB rspP
  dsimp only
  refine zbG (ids := []) (ids2 := [16]) Tryz.func27 rfl Tryz.ntmps27 Tryz.results27 rfl rfl rfl (fun _ h => by cases h) rfl rfl fun X hL hX => ?_
  have hln : (tHttp ++ Lib.itoa st ++ [32] ++ rsnF st ++ tCrlf).length < 9223372036854775807 := by
    show (headB st).length < _
    omega
  repeat' (first |refine zaj (f := 56) rfl rfl Tryz.call56 rfl cI ?_|refine zaj (f := 60) rfl rfl Tryz.call60 rfl cR ?_|refine zmC (l := tHttp ++ Lib.itoa st ++ [32] ++ rsnF st ++ tCrlf) Tryz.underlying9 Tryz.underlying58 Tryz.underlying5 rfl hln rfl rfl ?_|with_reducible (first |refine zag ?_|refine zaa ?_|refine zaf ?_|refine zac ?_|refine zae ?_|refine zaH ?_)|refine zab rfl rfl True.intro ?_|((first |refine zab rfl rfl ?_ ?_|refine zaw rfl rfl ?_ ?_);focus (first |exact le_ rfl|((repeat' refine And.intro ?_ ?_)<;>omega)|((repeat' refine And.intro ?_ ?_)<;>first |rfl)|(simp_all;omega)))|with_reducible refine ⟨by kernel_rfl, ?_⟩|fail)
  refine T.loop hL (fun i : Nat => [(1, .pv 1 0), (3, .ah 16 1 (headB st ++ linesB (hs.take i)).length), (18, .sl 2 hs.length (hdF hs)), (19, .i .i64 hs.length), (20, .i .i64 i)])
    (fun i => [(1, .var (rspP ⟨st, hs, body⟩)), (16, .bm 5 (headB st ++ linesB (hs.take i)).length (bI (headB st ++ linesB (hs.take i))))]) (fun i => i ≤ hs.length) (fun i => hs.length - i) 0 (Nat.zero_le _)
    ⟨⟨rfl, by rw [show linesB (hs.take 0) = [] from rfl, List.append_nil]; rfl, rfl, rfl, rfl, trivial⟩, ⟨rfl, by rw [show linesB (hs.take 0) = [] from rfl, List.append_nil]; rfl, trivial⟩, rfl, by rw [hX]; simp⟩ ?_
  intro i g1
  try dsimp only at g1 ⊢
  unfold rspP
  dsimp only
  have hnat : (i : Int).toNat = i := Int.toNat_natCast i
  have hli := hll i g1
  by_cases hi : i < hs.length
  · have hi' : (i : Int) < (hs.length : Int) := by omega
    have hqi := hq i
    have hl2 := zeK hqi
    have e0 : headB st ++ linesB (hs.take (i + 1)) = headB st ++ linesB (hs.take i) ++ lineB (hs.getD i ([], [])) := by rw [zcJ hi, List.append_assoc]
    have hm : (headB st ++ linesB (hs.take i)).length + (lineB (hs.getD i ([], []))).length ≤ 100000000000 := by
      rw [List.length_append]
      omega
    repeat' (first |refine zld (headB st ++ linesB (hs.take i)) (lineB (hs.getD i ([], []))) rfl rfl rfl rfl rfl (fun _ _ => rfl) hm rfl ?_|with_reducible (first |refine zag ?_|refine zaa ?_|refine zaf ?_|refine zac ?_|refine zah ?_|refine zae ?_|refine zai ?_)|refine zab rfl rfl True.intro ?_|((first |refine zad rfl ?_ ?_)<;>intro<;>try (first |(exfalso;omega)))|((first |refine zab rfl rfl ?_ ?_|refine zaw rfl rfl ?_ ?_|refine zax rfl ?_ ?_);focus (first |omega|exact le_ rfl|((repeat' refine And.intro ?_ ?_)<;>omega)|((repeat' refine And.intro ?_ ?_)<;>first |rfl|exact Nat.le_refl _)|(simp_all;omega)))|fail)
    all_goals first
      | (refine ⟨i + 1, by omega, by omega, ?_⟩
         rw [e0]
         exact ⟨⟨rfl, rfl, rfl, rfl, rfl, trivial⟩, ⟨rfl, rfl, trivial⟩, rfl, by rw [hX]; simp⟩)
      | (exfalso; omega)
      | trace_state
  · have hi' : ¬ (i : Int) < (hs.length : Int) := by omega
    obtain rfl : i = hs.length := by omega
    rw [List.take_length] at *
    have hm1 : (headB st ++ linesB hs).length + tCrlf.length ≤ 100000000000 := by
      rw [List.length_append]
      show _ + 2 ≤ _
      omega
    have hm2 : (headB st ++ linesB hs ++ tCrlf).length + body.length ≤ 100000000000 := by
      rw [List.length_append, List.length_append]
      show _ + 2 + _ ≤ _
      omega
    repeat' (first |refine zld (headB st ++ linesB hs) tCrlf rfl rfl rfl rfl rfl (fun _ _ => rfl) hm1 rfl ?_|refine zld (headB st ++ linesB hs ++ tCrlf) body rfl rfl rfl rfl rfl (fun _ _ => rfl) hm2 rfl ?_|with_reducible (first |refine zag ?_|refine zaa ?_|refine zaf ?_|refine zac ?_|refine zar ?_|refine zan ?_|refine zao ?_|refine zaH ?_)|refine zab rfl rfl True.intro ?_|((first |refine zad rfl ?_ ?_)<;>intro<;>try (first |(exfalso;omega)))|((first |refine zab rfl rfl ?_ ?_);focus (first |exact le_ rfl|((repeat' refine And.intro ?_ ?_)<;>omega)))|refine zat rfl ?_|with_reducible refine ⟨by kernel_rfl, ?_⟩|refine zev rfl ?_ ⟨?_⟩|fail)
    all_goals first
      | rfl
      | exact ⟨rfl, trivial⟩
      | (exfalso; omega)
      | trace_state

set_option maxRecDepth 100000 in
set_option maxHeartbeats 8000000 in
theorem zfD (x : RspR) (h0 : -9223372036854775808 ≤ x.st ∧ x.st < 9223372036854775808) (h1 : x.hs.length ≤ 20) (h2 : x.body.length ≤ 1000) (hq : ∀ i, (x.hs.getD i ([], [])).1.length + (x.hs.getD i ([], [])).2.length ≤ 100) :
    Ctr Tryz.prog 28 [.ag (rspP x)] (.sl 1 (sentB x).length (bytesF (sentB x))) := by
  refine CtrO.shutB (k := 41) (e := 5) ?_
  obtain ⟨st, hs, body⟩ := x
  dsimp only at h0 h1 h2 hq
  have cI := zbi st (by omega) (by omega)
  have cR := zga st
  have l1 := zdE st (by omega)
  have l2 := zgb st
  have l3 := zfJ st (by omega) (by omega)
  have hll := zdD hq
  unfold sentB rspP
  dsimp only
  refine zbG (ids := []) (ids2 := [41]) Tryz.func28 rfl Tryz.ntmps28 Tryz.results28 rfl rfl rfl (fun _ h => by cases h) rfl rfl fun X hL hX => ?_
  repeat' (first |refine zaj (f := 59) rfl rfl Tryz.call59 rfl cI ?_|refine zaj (f := 61) rfl rfl Tryz.call61 rfl cR ?_|with_reducible (first |refine zag ?_|refine zaa ?_|refine zaf ?_|refine zac ?_|refine zae ?_|refine zaH ?_)|refine zab rfl rfl True.intro ?_|((first |refine zab rfl rfl ?_ ?_|refine zaw rfl rfl ?_ ?_);focus (first |exact le_ rfl|((repeat' refine And.intro ?_ ?_)<;>omega)|((repeat' refine And.intro ?_ ?_)<;>first |rfl)|(simp_all;omega)))|with_reducible refine ⟨by kernel_rfl, ?_⟩|fail)
  refine T.loop hL (fun i : Nat => [(1, .pv 1 0), (3, .s (headB st ++ linesB (hs.take i))), (4, .i .i64 i)])
    (fun _ => [(1, .var (rspP ⟨st, hs, body⟩))]) (fun i => i ≤ hs.length) (fun i => hs.length - i) 0 (Nat.zero_le _)
    ⟨⟨rfl, by rw [show linesB (hs.take 0) = [] from rfl, List.append_nil]; rfl, rfl, trivial⟩, ⟨rfl, trivial⟩, rfl, by rw [hX]; simp⟩ ?_
  intro i g1
  try dsimp only at g1 ⊢
  unfold rspP
  dsimp only
  have hnat : (i : Int).toNat = i := Int.toNat_natCast i
  have hli := hll i g1
  have hle : (headB st ++ linesB (hs.take i)).length ≤ 2200 := by
    rw [List.length_append]
    omega
  by_cases hi : i < hs.length
  · have hi' : (i : Int) < (hs.length : Int) := by omega
    have hqi := hq i
    have hl2 := zeK hqi
    have e0 : headB st ++ linesB (hs.take (i + 1)) = headB st ++ linesB (hs.take i) ++ (hs.getD i ([], [])).1 ++ [58, 32] ++ (hs.getD i ([], [])).2 ++ tCrlf := by
      rw [zcJ hi]
      unfold lineB
      simp only [List.append_assoc]
    generalize headB st ++ linesB (hs.take i) = acc at *
    repeat' (first |with_reducible (first |refine zag ?_|refine zaa ?_|refine zaf ?_|refine zac ?_|refine zah ?_|refine zae ?_|refine zai ?_|refine zaH ?_)|refine zab rfl rfl True.intro ?_|((first |refine zad rfl ?_ ?_)<;>intro<;>try (first |(exfalso;omega)))|((first |refine zab rfl rfl ?_ ?_);focus (first |(simp only [Int.toNat_natCast];omega)|omega|exact le_ rfl|((repeat' refine And.intro ?_ ?_)<;>omega)|(simp_all;omega)))|with_reducible refine ⟨by kernel_rfl, ?_⟩|fail)
    all_goals first
      | exact ⟨i + 1, by omega, by omega, ⟨rfl, congrArg D.s e0.symm, rfl, trivial⟩, ⟨rfl, trivial⟩, rfl, by rw [hX]; simp⟩
      | (exfalso; omega)
      | trace_state
  · have hi' : ¬ (i : Int) < (hs.length : Int) := by omega
    obtain rfl : i = hs.length := by omega
    rw [List.take_length] at *
    have hln : (headB st ++ linesB hs ++ tCrlf).length < 9223372036854775807 := by
      rw [List.length_append]
      show _ + 2 < _
      omega
    have hm2 : (headB st ++ linesB hs ++ tCrlf).length + body.length ≤ 100000000000 := by
      rw [List.length_append]
      show _ + 2 + _ ≤ _
      omega
    repeat' (first |refine zmC (l := headB st ++ linesB hs ++ tCrlf) Tryz.underlying9 Tryz.underlying58 Tryz.underlying5 rfl hln rfl rfl ?_|refine zld (headB st ++ linesB hs ++ tCrlf) body rfl rfl rfl rfl rfl (fun _ _ => rfl) hm2 rfl ?_|with_reducible (first |refine zag ?_|refine zaa ?_|refine zaf ?_|refine zac ?_|refine zar ?_|refine zan ?_|refine zao ?_)|refine zab rfl rfl True.intro ?_|((first |refine zad rfl ?_ ?_)<;>intro<;>try (first |(exfalso;omega)))|((first |refine zab rfl rfl ?_ ?_);focus (first |exact le_ rfl|((repeat' refine And.intro ?_ ?_)<;>omega)|(simp_all;omega)))|refine zat rfl ?_|refine zev rfl ?_ ⟨?_⟩|fail)
    all_goals first
      | rfl
      | exact ⟨rfl, trivial⟩
      | (exfalso; omega)
      | trace_state

theorem zjw : Ctr Tryz.prog 23 [] (.b true) := by
  have c1 := ziu [47, 97, 47, 49, 47, 48, 47, 49, 46, 109, 118, 116] (by decide)
  rw [show routeP [47, 97, 47, 49, 47, 48, 47, 49, 46, 109, 118, 116] = [.s [97], plZ 1 0 1, .b true, .b true] by kernel_rfl] at c1
  unfold plZ at c1
  refine zaE Tryz.func23 rfl Tryz.ntmps23 Tryz.results23 rfl rfl fun X hL hX => ?_
  repeat' (first |refine zaj (f := 50) rfl rfl Tryz.call50 rfl c1 ?_|with_reducible (first |refine zag ?_|refine zaa ?_|refine zaf ?_|refine zac ?_|refine zar ?_)|refine zab rfl rfl True.intro ?_|refine zam rfl rfl rfl rfl True.intro ?_|((first |refine zcA rfl rfl ?_ ?_)<;>intro<;>try (first |contradiction))|((first |refine zam rfl rfl rfl rfl ?_ ?_|refine zaw rfl rfl ?_ ?_|refine zax rfl ?_ ?_);focus (first |exact le_ rfl|((repeat' refine And.intro ?_ ?_)<;>first |rfl|exact Nat.le_refl _)))|refine zau rfl rfl|fail)
end Go.Proofs.YtkkaamhocpmhkaaGreatDoor.Flow
