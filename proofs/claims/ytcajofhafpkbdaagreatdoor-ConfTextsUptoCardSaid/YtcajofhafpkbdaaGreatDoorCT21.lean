/- The texts G15, DO, D6, D10, D14, LibsI, D12, G16, one behind the other. -/
import Derived.Test.YtcajofhafpkbdaaGreatDoorCT11
import Derived.Test.YtcajofhafpkbdaaGreatDoorCT12
import Derived.Test.YtcajofhafpkbdaaGreatDoorCT17
import Derived.Test.YtcajofhafpkbdaaGreatDoorCT20
import Derived.Lib.Bytealg
import Derived.Lib.Small
import Derived.Lib.Repeat
namespace Go.Proofs.YtcajofhafpkbdaaGreatDoor.Flow
open Go
def fitC (c : CmpR) : Prop := c.srcs.length ≤ 4194304 ∧ ∀ i, fitS (c.srcs.getD i s0R)
def fitL (l : List CmpR) : Prop := l.length ≤ 4194304 ∧ ∀ i, fitC (l.getD i c0R)
theorem okMBC {fr : Fr} {ks : List Txt} (h : okAll [9] fr [] = true) : okAll [9] fr [(9, .mp (mapB ks))] = true := by
  unfold okAll at h ⊢
  rw [List.all_cons, okMB]
  exact h
set_option maxRecDepth 100000 in
set_option maxHeartbeats 16000000 in
theorem zeY (l : List CmpR) (hl : fitL l) (hb : ∀ i, bigC (l.getD i c0R)) : Ctr Tryz.prog 17 [.sl 5 l.length (cmpF l)] (.b (decide (okL l))) := by
  obtain ⟨hl1, hl2⟩ := hl
  refine zaE Tryz.func17 rfl Tryz.ntmps17 Tryz.results17 rfl rfl fun X hL hX => ?_
  repeat' (first |refine zoI rfl rfl ?_|with_reducible (first |refine zag ?_|refine zaa ?_|refine zaf ?_|refine zad ?_|refine zae ?_)|refine zab rfl rfl True.intro ?_|fail)
  refine T.loop hL (fun i : Nat => [(3, .fn 37 []), (4, .mh 9), (10, .sl 5 l.length (cmpF l)), (11, .i .i64 l.length), (12, .i .i64 i)]) (fun i => [(9, .mp (mapB ((l.map CmpR.id).take i)))])
    (fun i => i ≤ l.length ∧ ∀ j, j < i → cmpOk l j) (fun i => l.length - i) 0 ⟨Nat.zero_le _, fun j h => absurd h (Nat.not_lt_zero _)⟩
    ⟨⟨rfl, rfl, rfl, rfl, rfl, trivial⟩, ⟨rfl, trivial⟩, okMBC rfl, by rw [hX]; simp⟩ ?_
  rintro i ⟨g1, g2⟩
  try dsimp only at g1 g2 ⊢
  have hnat : (i : Int).toNat = i := Int.toNat_natCast i
  by_cases hil : i < l.length
  rotate_left
  · have hil' : ¬ (i : Int) < l.length := by omega
    rw [decide_eq_true (show okL l from fun j hj => g2 j (by omega))]
    clear g2
    repeat' (first |with_reducible (first |refine zag ?_|refine zaa ?_|refine zaf ?_|refine zad ?_|refine zaj ?_|refine zaA ?_|refine zaz ?_)|refine zab rfl rfl True.intro ?_|((first |refine zac rfl ?_ ?_)<;>intro<;>try (first |contradiction))|refine zaO rfl ?_|refine zau rfl ?_|fail)
    all_goals rfl
  have hil' : (i : Int) < l.length := by omega
  obtain ⟨hb1, hb2⟩ := hb (i : Int).toNat
  obtain ⟨hc1, hc2⟩ := hl2 (i : Int).toNat
  unfold bigT at hb1
  have hno : ¬ cmpOk l (i : Int).toNat → ¬ okL l := fun h q => h (by rw [hnat]; exact q i hil)
  have hnx : cmpOk l (i : Int).toNat → ∀ j, j < i + 1 → cmpOk l j := fun h j hj => by
    by_cases e : j = i
    · rw [e]
      rwa [hnat] at h
    · exact g2 j (by omega)
  clear hb hl2 g2
  have c1 := zog (l.getD (i : Int).toNat c0R).id (by omega)
  by_cases hm : CmpR.id (l.getD i c0R) ∈ (l.map CmpR.id).take i
  · have hg : mget (l.getD (i : Int).toNat c0R).id (mapB ((l.map CmpR.id).take i)) = some (.b true) := zeh (by rw [hnat]; exact hm)
    have hdup : ¬ cmpOk l (i : Int).toNat := fun h => by
      obtain ⟨k, hk, e⟩ := (zhB (f := CmpR.id) (d := c0R) hil).1 hm
      rw [hnat] at h
      exact h.2.1 k hk e
    rw [decide_eq_false (hno hdup)]
    clear hno hnx hdup hm
    cases hq : nmB (l.getD (i : Int).toNat c0R).id with
    | false =>
      rw [hq] at c1
      repeat' (first |refine zai (f := 10) rfl rfl Tryz.call10 rfl c1 ?_|with_reducible (first |refine zag ?_|refine zaa ?_|refine zaf ?_|refine zad ?_|refine zaj ?_|refine zah ?_|refine zae ?_|refine zam ?_|refine zar ?_)|refine zab rfl rfl True.intro ?_|refine zat rfl rfl rfl ?_|refine zav rfl ?_|((first |refine zac rfl ?_ ?_)<;>intro<;>try (first |contradiction))|((first |refine zab rfl rfl ?_ ?_|refine zao rfl rfl ?_ ?_|refine zaw rfl ?_ ?_);focus (first |omega|exact le_ rfl|((repeat' refine And.intro ?_ ?_)<;>omega)|((repeat' refine And.intro ?_ ?_)<;>first |rfl|exact Nat.le_refl _)))|refine zau rfl ?_|fail)
      all_goals rfl
    | true =>
      rw [hq] at c1
      repeat' (first |refine zai (f := 10) rfl rfl Tryz.call10 rfl c1 ?_|refine zsg zaX Tryz.underlying9 rfl rfl rfl rfl rfl hg rfl ?_|with_reducible (first |refine zag ?_|refine zaa ?_|refine zaf ?_|refine zad ?_|refine zaj ?_|refine zah ?_|refine zae ?_|refine zam ?_|refine zar ?_)|refine zab rfl rfl True.intro ?_|refine zat rfl rfl rfl ?_|refine zak rfl rfl rfl rfl True.intro ?_|refine zav rfl ?_|((first |refine zac rfl ?_ ?_|refine zaD rfl rfl ?_ ?_)<;>intro<;>try (first |contradiction))|((first |refine zab rfl rfl ?_ ?_|refine zak rfl rfl rfl rfl ?_ ?_|refine zao rfl rfl ?_ ?_|refine zaw rfl ?_ ?_);focus (first |omega|exact le_ rfl|((repeat' refine And.intro ?_ ?_)<;>omega)|((repeat' refine And.intro ?_ ?_)<;>first |rfl|exact Nat.le_refl _)))|refine zau rfl ?_|fail)
      all_goals rfl
  have hg : mget (l.getD (i : Int).toNat c0R).id (mapB ((l.map CmpR.id).take i)) = none := zdL (by rw [hnat]; exact hm)
  have hp := zeI (k := (l.getD (i : Int).toNat c0R).id) (ks := (l.map CmpR.id).take i) (by rw [hnat]; exact hm)
  have ht := ziL (f := CmpR.id) (d := c0R) hil
  have hid : ∀ k, k < (i : Int).toNat → ¬ (l.getD k c0R).id = (l.getD (i : Int).toNat c0R).id := by
    rw [hnat]
    exact (zkN (f := CmpR.id) (d := c0R) hil).1 hm
  rw [← hnat] at ht
  rw [hnat] at ht
  clear hm
  cases hq : nmB (l.getD (i : Int).toNat c0R).id with
  | false =>
    rw [hq] at c1
    rw [decide_eq_false (hno fun h => by rw [h.1.1] at hq; cases hq)]
    clear hno hnx
    repeat' (first |refine zai (f := 10) rfl rfl Tryz.call10 rfl c1 ?_|with_reducible (first |refine zag ?_|refine zaa ?_|refine zaf ?_|refine zad ?_|refine zaj ?_|refine zah ?_|refine zae ?_|refine zam ?_|refine zar ?_)|refine zab rfl rfl True.intro ?_|refine zat rfl rfl rfl ?_|refine zav rfl ?_|((first |refine zac rfl ?_ ?_)<;>intro<;>try (first |contradiction))|((first |refine zab rfl rfl ?_ ?_|refine zao rfl rfl ?_ ?_|refine zaw rfl ?_ ?_);focus (first |omega|exact le_ rfl|((repeat' refine And.intro ?_ ?_)<;>omega)|((repeat' refine And.intro ?_ ?_)<;>first |rfl|exact Nat.le_refl _)))|refine zau rfl ?_|fail)
    all_goals rfl
  | true =>
  rw [hq] at c1
  by_cases hn : 1 ≤ ((l.getD (i : Int).toNat c0R).srcs.length : Int) ∧ ((l.getD (i : Int).toNat c0R).srcs.length : Int) ≤ 16
  rotate_left
  · rw [decide_eq_false (hno fun h => hn ⟨h.1.2.1, h.1.2.2.1⟩)]
    clear hno hnx hp ht
    repeat' (first |refine zai (f := 10) rfl rfl Tryz.call10 rfl c1 ?_|refine zeu zaX Tryz.underlying9 rfl rfl rfl rfl rfl rfl hg rfl ?_|with_reducible (first |refine zag ?_|refine zaa ?_|refine zaf ?_|refine zad ?_|refine zaj ?_|refine zah ?_|refine zae ?_|refine zam ?_|refine zar ?_)|refine zab rfl rfl True.intro ?_|refine zat rfl rfl rfl ?_|refine zak rfl rfl rfl rfl True.intro ?_|refine zav rfl ?_|((first |refine zac rfl ?_ ?_|refine zan rfl rfl ?_ ?_|refine zaD rfl rfl ?_ ?_)<;>intro<;>try (first |contradiction|(exfalso;omega)))|((first |refine zab rfl rfl ?_ ?_|refine zak rfl rfl rfl rfl ?_ ?_|refine zao rfl rfl ?_ ?_|refine zaw rfl ?_ ?_);focus (first |omega|exact le_ rfl|((repeat' refine And.intro ?_ ?_)<;>omega)|((repeat' refine And.intro ?_ ?_)<;>first |rfl|exact Nat.le_refl _)))|refine zau rfl ?_|fail)
    all_goals first | rfl | (exfalso; omega)
  obtain ⟨n1, n2⟩ := hn
  have n1' : ¬ ((l.getD (i : Int).toNat c0R).srcs.length : Int) < 1 := by omega
  have n2' : ¬ ((l.getD (i : Int).toNat c0R).srcs.length : Int) > 16 := by omega
  have k1 := zkg (l.getD (i : Int).toNat c0R).buf 64
  have k2 := zkg (l.getD (i : Int).toNat c0R).mx 30
  have k3 := zkg (l.getD (i : Int).toNat c0R).lim 1048576
  by_cases hd : (0 ≤ (l.getD (i : Int).toNat c0R).buf ∧ (l.getD (i : Int).toNat c0R).buf ≤ 64) ∧ (0 ≤ (l.getD (i : Int).toNat c0R).mx ∧ (l.getD (i : Int).toNat c0R).mx ≤ 30) ∧ (0 ≤ (l.getD (i : Int).toNat c0R).lim ∧ (l.getD (i : Int).toNat c0R).lim ≤ 1048576)
  rotate_left
  · rw [decide_eq_false (hno fun h => by
      obtain ⟨⟨_, _, _, b1, b2, b3, b4, b5, b6⟩, _⟩ := h
      exact hd ⟨⟨b1, b2⟩, ⟨b3, b4⟩, b5, b6⟩)]
    clear hno hnx hp ht
    by_cases h1 : 0 ≤ (l.getD (i : Int).toNat c0R).buf ∧ (l.getD (i : Int).toNat c0R).buf ≤ 64
    · rw [decide_eq_true h1] at k1
      by_cases h2 : 0 ≤ (l.getD (i : Int).toNat c0R).mx ∧ (l.getD (i : Int).toNat c0R).mx ≤ 30
      · rw [decide_eq_true h2] at k2
        rw [decide_eq_false fun h => hd ⟨h1, h2, h⟩] at k3
        clear hd h1 h2
        repeat' (first |refine zai (f := 10) rfl rfl Tryz.call10 rfl c1 ?_|refine zeu zaX Tryz.underlying9 rfl rfl rfl rfl rfl rfl hg rfl ?_|refine zgW zaX Tryz.underlying9 rfl rfl rfl rfl rfl ?_|refine zai (f := 37) rfl rfl Tryz.call37 rfl k1 ?_|refine zaK (f := 37) rfl rfl rfl rfl Tryz.call37 rfl k2 ?_|refine zaK (f := 37) rfl rfl rfl rfl Tryz.call37 rfl k3 ?_|with_reducible (first |refine zag ?_|refine zaa ?_|refine zaf ?_|refine zad ?_|refine zaj ?_|refine zah ?_|refine zae ?_|refine zam ?_|refine zar ?_)|refine zab rfl rfl True.intro ?_|refine zak rfl rfl rfl rfl True.intro ?_|refine zav rfl ?_|((first |refine zac rfl ?_ ?_|refine zan rfl rfl ?_ ?_|refine zaD rfl rfl ?_ ?_)<;>intro<;>try (first |contradiction))|((first |refine zab rfl rfl ?_ ?_|refine zak rfl rfl rfl rfl ?_ ?_|refine zao rfl rfl ?_ ?_|refine zaw rfl ?_ ?_);focus (first |omega|exact le_ rfl|((repeat' refine And.intro ?_ ?_)<;>omega)|((repeat' refine And.intro ?_ ?_)<;>first |rfl|exact Nat.le_refl _)))|refine zau rfl ?_|fail)
        all_goals rfl
      · rw [decide_eq_false h2] at k2
        clear hd h1 h2 k3
        repeat' (first |refine zai (f := 10) rfl rfl Tryz.call10 rfl c1 ?_|refine zeu zaX Tryz.underlying9 rfl rfl rfl rfl rfl rfl hg rfl ?_|refine zgW zaX Tryz.underlying9 rfl rfl rfl rfl rfl ?_|refine zai (f := 37) rfl rfl Tryz.call37 rfl k1 ?_|refine zaK (f := 37) rfl rfl rfl rfl Tryz.call37 rfl k2 ?_|with_reducible (first |refine zag ?_|refine zaa ?_|refine zaf ?_|refine zad ?_|refine zaj ?_|refine zah ?_|refine zae ?_|refine zam ?_|refine zar ?_)|refine zab rfl rfl True.intro ?_|refine zat rfl rfl rfl ?_|refine zak rfl rfl rfl rfl True.intro ?_|refine zav rfl ?_|((first |refine zac rfl ?_ ?_|refine zan rfl rfl ?_ ?_|refine zaD rfl rfl ?_ ?_)<;>intro<;>try (first |contradiction))|((first |refine zab rfl rfl ?_ ?_|refine zak rfl rfl rfl rfl ?_ ?_|refine zao rfl rfl ?_ ?_|refine zaw rfl ?_ ?_);focus (first |omega|exact le_ rfl|((repeat' refine And.intro ?_ ?_)<;>omega)|((repeat' refine And.intro ?_ ?_)<;>first |rfl|exact Nat.le_refl _)))|refine zau rfl ?_|fail)
        all_goals rfl
    · rw [decide_eq_false h1] at k1
      clear hd h1 k2 k3
      repeat' (first |refine zai (f := 10) rfl rfl Tryz.call10 rfl c1 ?_|refine zeu zaX Tryz.underlying9 rfl rfl rfl rfl rfl rfl hg rfl ?_|refine zgW zaX Tryz.underlying9 rfl rfl rfl rfl rfl ?_|refine zai (f := 37) rfl rfl Tryz.call37 rfl k1 ?_|with_reducible (first |refine zag ?_|refine zaa ?_|refine zaf ?_|refine zad ?_|refine zaj ?_|refine zah ?_|refine zae ?_|refine zam ?_|refine zar ?_)|refine zab rfl rfl True.intro ?_|refine zat rfl rfl rfl ?_|refine zak rfl rfl rfl rfl True.intro ?_|refine zav rfl ?_|((first |refine zac rfl ?_ ?_|refine zan rfl rfl ?_ ?_|refine zaD rfl rfl ?_ ?_)<;>intro<;>try (first |contradiction))|((first |refine zab rfl rfl ?_ ?_|refine zak rfl rfl rfl rfl ?_ ?_|refine zao rfl rfl ?_ ?_|refine zaw rfl ?_ ?_);focus (first |omega|exact le_ rfl|((repeat' refine And.intro ?_ ?_)<;>omega)|((repeat' refine And.intro ?_ ?_)<;>first |rfl|exact Nat.le_refl _)))|refine zau rfl ?_|fail)
      all_goals rfl
  have hhd : hdOk (l.getD (i : Int).toNat c0R) := ⟨hq, n1, n2, hd.1.1, hd.1.2, hd.2.1.1, hd.2.1.2, hd.2.2.1, hd.2.2.2⟩
  rw [decide_eq_true hd.1] at k1
  rw [decide_eq_true hd.2.1] at k2
  rw [decide_eq_true hd.2.2] at k3
  clear hd
  repeat' (first |refine zai (f := 10) rfl rfl Tryz.call10 rfl c1 ?_|refine zeu zaX Tryz.underlying9 rfl rfl rfl rfl rfl rfl hg rfl ?_|refine zgW zaX Tryz.underlying9 rfl rfl rfl rfl rfl ?_|refine zai (f := 37) rfl rfl Tryz.call37 rfl k1 ?_|refine zaK (f := 37) rfl rfl rfl rfl Tryz.call37 rfl k2 ?_|refine zaK (f := 37) rfl rfl rfl rfl Tryz.call37 rfl k3 ?_|with_reducible (first |refine zag ?_|refine zaa ?_|refine zaf ?_|refine zad ?_|refine zah ?_|refine zae ?_)|refine zab rfl rfl True.intro ?_|refine zak rfl rfl rfl rfl True.intro ?_|refine zal rfl ?_|((first |refine zac rfl ?_ ?_|refine zan rfl rfl ?_ ?_|refine zaD rfl rfl ?_ ?_)<;>intro<;>try (first |contradiction))|((first |refine zab rfl rfl ?_ ?_|refine zak rfl rfl rfl rfl ?_ ?_|refine zao rfl rfl ?_ ?_|refine zaw rfl ?_ ?_);focus (first |omega|exact le_ rfl|((repeat' refine And.intro ?_ ?_)<;>omega)|((repeat' refine And.intro ?_ ?_)<;>first |rfl|exact Nat.le_refl _)))|fail)
  clear k1 k2 k3 c1 hg
  refine T.loop hL (fun m : Nat => [(3, .fn 37 []), (4, .mh 9), (10, .sl 5 l.length (cmpF l)), (11, .i .i64 l.length), (12, .i .i64 i), (61, .sl 9 (l.getD (i : Int).toNat c0R).srcs.length (srcF (l.getD (i : Int).toNat c0R).srcs)), (62, .i .i64 (l.getD (i : Int).toNat c0R).srcs.length), (63, .i .i64 m)]) (fun _ => [(9, .mp (mapB ((l.map CmpR.id).take (i + 1))))])
    (fun m => m ≤ (l.getD (i : Int).toNat c0R).srcs.length ∧ ∀ j, j < m → okSrc ((l.getD (i : Int).toNat c0R).srcs.getD j s0R)) (fun m => (l.getD (i : Int).toNat c0R).srcs.length - m) 0 ⟨Nat.zero_le _, fun j h => absurd h (Nat.not_lt_zero _)⟩
    ⟨⟨rfl, rfl, rfl, rfl, rfl, rfl, rfl, rfl, trivial⟩, ⟨congrArg (fun e => some (Own.mp e)) (by rw [ht]; rw [hnat] at hp ⊢; exact hp), trivial⟩, okMBC rfl, by rw [hX]; simp⟩ ?_
  rintro m ⟨u1, u2⟩
  try dsimp only at u1 u2 ⊢
  have mnat : (m : Int).toNat = m := Int.toNat_natCast m
  clear hp ht
  by_cases hml : m < (l.getD (i : Int).toNat c0R).srcs.length
  rotate_left
  · have hml' : ¬ (m : Int) < (l.getD (i : Int).toNat c0R).srcs.length := by omega
    have g3 := hnx ⟨hhd, hid, fun j hj => u2 j (by omega)⟩
    clear u2 hno hnx hid
    repeat' (first |with_reducible (first |refine zag ?_|refine zaa ?_|refine zaf ?_|refine zad ?_|refine zaA ?_|refine zap ?_|refine zaz ?_)|refine zab rfl rfl True.intro ?_|((first |refine zac rfl ?_ ?_)<;>intro<;>try (first |contradiction))|((first |refine zab rfl rfl ?_ ?_);focus (first |omega|((repeat' refine And.intro ?_ ?_)<;>omega)))|refine zaO rfl ?_|fail)
    all_goals exact ⟨i + 1, ⟨by omega, g3⟩, by omega, ⟨rfl, rfl, rfl, rfl, rfl, trivial⟩, ⟨rfl, trivial⟩, okMBC rfl, by rw [hX]; simp⟩
  have hml' : (m : Int) < (l.getD (i : Int).toNat c0R).srcs.length := by omega
  have c := zpm ((l.getD (i : Int).toNat c0R).srcs.getD (m : Int).toNat s0R) (hc2 _) (hb2 _)
  by_cases hk : okSrc ((l.getD (i : Int).toNat c0R).srcs.getD (m : Int).toNat s0R)
  · rw [decide_eq_true hk] at c
    have u3 : ∀ j, j < m + 1 → okSrc ((l.getD (i : Int).toNat c0R).srcs.getD j s0R) := fun j hj => by
      by_cases e : j = m
      · rw [e]
        rwa [mnat] at hk
      · exact u2 j (by omega)
    clear u2 hno hnx hid
    repeat' (first |refine zai (f := 38) rfl rfl Tryz.call38 rfl c ?_|with_reducible (first |refine zag ?_|refine zaa ?_|refine zaf ?_|refine zad ?_|refine zah ?_|refine zae ?_|refine zap ?_)|refine zab rfl rfl True.intro ?_|refine zal rfl ?_|((first |refine zac rfl ?_ ?_)<;>intro<;>try (first |contradiction))|((first |refine zab rfl rfl ?_ ?_|refine zao rfl rfl ?_ ?_|refine zaw rfl ?_ ?_);focus (first |omega|exact le_ rfl|((repeat' refine And.intro ?_ ?_)<;>omega)|((repeat' refine And.intro ?_ ?_)<;>first |rfl|exact Nat.le_refl _)))|fail)
    all_goals exact ⟨m + 1, ⟨by omega, u3⟩, by omega, ⟨rfl, rfl, rfl, rfl, rfl, rfl, rfl, rfl, trivial⟩, ⟨rfl, trivial⟩, okMBC rfl, by rw [hX]; simp⟩
  · rw [decide_eq_false hk] at c
    rw [decide_eq_false (hno fun h => by
      rw [mnat] at hk
      exact hk (h.2.2 m hml))]
    clear u2 hno hnx hid
    repeat' (first |refine zai (f := 38) rfl rfl Tryz.call38 rfl c ?_|with_reducible (first |refine zag ?_|refine zaa ?_|refine zaf ?_|refine zad ?_|refine zaj ?_|refine zah ?_|refine zae ?_|refine zam ?_|refine zar ?_)|refine zab rfl rfl True.intro ?_|refine zav rfl ?_|((first |refine zac rfl ?_ ?_)<;>intro<;>try (first |contradiction))|((first |refine zab rfl rfl ?_ ?_|refine zao rfl rfl ?_ ?_|refine zaw rfl ?_ ?_);focus (first |omega|exact le_ rfl|((repeat' refine And.intro ?_ ?_)<;>omega)|((repeat' refine And.intro ?_ ?_)<;>first |rfl|exact Nat.le_refl _)))|refine zau rfl ?_|fail)
    all_goals rfl

def lastOk (s : List UInt8) : Prop := ∀ c r, s = r ++ [c] → ¬ c = 48
theorem lastOk.tail {c : UInt8} {s : List UInt8} (h : lastOk (c :: s)) : lastOk s := fun d r e => h d (c :: r) (by rw [e]; rfl)
theorem zms {neg : Bool} {s : List UInt8} {e : Int} (h : RightP neg s e) : lastOk s := fun c r hs => by
  subst hs
  have h0 : ¬ (r ++ [c]).length = 0 := by simp
  rw [zaP h0] at h
  have h4 := h.2.2.2.1
  intro hc
  subst hc
  apply h4
  simp [at', List.getD_eq_getElem?_getD]

abbrev zs (n : Nat) : List UInt8 := List.replicate n 48
theorem zkk (n : Nat) : Lib.repeatL [48] n = zs n := by
  induction n with
  | zero => rfl
  | succ n ih =>
    rw [Lib.repeatL, ih]
    show _ = List.replicate (n + 1) 48
    rw [List.replicate_succ]
    rfl
def textU (s : List UInt8) (e : Int) : List UInt8 :=
  if 0 ≤ e ∧ s.length + e ≤ 21 then s ++ zs e.toNat
  else if 1 ≤ s.length + e ∧ s.length + e < s.length then s.take (s.length + e).toNat ++ [46] ++ s.drop (s.length + e).toNat
  else if -6 ≤ s.length + e ∧ s.length + e ≤ 0 then [48, 46] ++ zs (-(s.length + e)).toNat ++ s
  else s.take 1 ++ (if 1 < s.length then [46] ++ s.drop 1 else []) ++ [101] ++ Lib.itoa (s.length + e - 1)
def textF (neg : Bool) (s : List UInt8) (e : Int) : List UInt8 :=
  if ¬ RightP neg s e then [] else if s.length = 0 then [48] else (if neg = true then [45] else []) ++ textU s e
theorem zjX (e : Int) (h : 0 ≤ e) (h2 : e ≤ 1000000) : Ctr Tryz.prog 114 [.s [48], .i .i64 e] (.s (zs e.toNat)) := by
  obtain ⟨n, rfl⟩ := Int.eq_ofNat_of_zero_le h
  have := zmO [48] n (by omega) (by simp; omega)
  rwa [zkk] at this
theorem zja (e : Int) (h : 0 ≤ e) (h2 : e ≤ 1000000) : Ctr Tryz.prog 105 [.i .i64 e] (.s (zs e.toNat)) := by
  obtain ⟨n, rfl⟩ := Int.eq_ofNat_of_zero_le h
  refine zaE Tryz.func105 rfl Tryz.ntmps105 Tryz.results105 rfl rfl fun X hL hX => ?_
  repeat' (first |with_reducible (first |refine zag ?_|refine zaa ?_|refine zaf ?_|refine zad ?_|refine zae ?_)|refine zab rfl rfl True.intro ?_|fail)
  refine T.loop hL (fun k : Nat => [(0, .i .i64 n), (3, .s (zs k)), (4, .i .i64 k)]) (fun _ => []) (fun k => k ≤ n) (fun k => n - k) 0 (Nat.zero_le _) ⟨⟨rfl, rfl, rfl, trivial⟩, trivial, rfl, by rw [hX]; intro k hk; cases hk⟩ ?_
  intro k hk
  have hl : (zs k).length = k := by simp
  repeat' (first |with_reducible (first |refine zag ?_|refine zaa ?_|refine zaf ?_|refine zad ?_|refine zaj ?_|refine zah ?_|refine zaA ?_|refine zae ?_|refine zap ?_|refine zaz ?_)|refine zab rfl rfl True.intro ?_|((first |refine zac rfl ?_ ?_)<;>intro)|((first |refine zab rfl rfl ?_ ?_);focus (first |(simp only [List.length_replicate, List.length_cons, List.length_nil];omega)|omega|((repeat' refine And.intro ?_ ?_)<;>omega)))|refine zaO rfl ?_|refine zau rfl ?_|fail)
  · exact ⟨k + 1, by omega, by omega, ⟨rfl, congrArg D.s (List.replicate_succ' (a := (48 : UInt8)) (n := k)).symm, rfl, trivial⟩, trivial, rfl, by rw [hX]; intro k hk; cases hk⟩
  · rw [show k = n by omega]
    simp
abbrev dig10 : List UInt8 := [48, 49, 50, 51, 52, 53, 54, 55, 56, 57]
theorem znh : ∀ n : Nat, n < 10 → (dig10.take (n + 1)).drop n = [UInt8.ofNat (48 + n)] := by decide
theorem zex (n : Nat) : n ≤ 1000000 → Ctr Tryz.prog 106 [.i .i64 n] (.s (Lib.decDigits n)) := by
  induction n using Nat.strongRecOn with
  | ind n ih =>
    intro hn
    have hl : (Lib.decDigits (n / 10)).length ≤ 100 := dlen (n / 10) (by omega)
    have l1 : dig10.length = 10 := rfl
    by_cases h : n < 10
    · have e : Lib.decDigits n = [UInt8.ofNat (48 + n)] := by rw [Lib.decDigits, dif_pos h]
      refine zaE Tryz.func106 rfl Tryz.ntmps106 Tryz.results106 rfl rfl fun X hL hX => ?_
      clear ih hl
      repeat' (first |with_reducible (first |refine zag ?_|refine zaa ?_|refine zaf ?_|refine zad ?_|refine zaj ?_|refine zah ?_|refine zam ?_)|refine zab rfl rfl True.intro ?_|refine zal rfl ?_|((first |refine zac rfl ?_ ?_)<;>intro<;>try (first |(exfalso;omega)))|((first |refine zab rfl rfl ?_ ?_);focus (first |omega|((repeat' refine And.intro ?_ ?_)<;>omega)|((repeat' refine And.intro ?_ ?_)<;>first |omega)|(simp_all;omega)))|refine zau rfl ?_|fail)
      rw [e, ← znh n h]
      rfl
    · have e : Lib.decDigits n = Lib.decDigits (n / 10) ++ [UInt8.ofNat (48 + n % 10)] := by rw [Lib.decDigits, dif_neg h]
      have c := ih (n / 10) (by omega) (by omega)
      refine zaE Tryz.func106 rfl Tryz.ntmps106 Tryz.results106 rfl rfl fun X hL hX => ?_
      clear ih
      repeat' (first |with_reducible (first |refine zag ?_|refine zaa ?_|refine zaf ?_|refine zad ?_|refine zaj ?_|refine zah ?_|refine zaB ?_)|refine zab rfl rfl True.intro ?_|refine zal rfl ?_|((first |refine zac rfl ?_ ?_)<;>intro<;>try (first |(exfalso;omega)))|((first |refine zab rfl rfl ?_ ?_);focus (first |(simp only [List.length_drop, List.length_take];omega)|omega|((repeat first |rw [wi6_]);(repeat' refine And.intro ?_ ?_)<;>omega)|((repeat' refine And.intro ?_ ?_)<;>first |omega)|(simp_all;omega)))|with_reducible refine ⟨by kernel_rfl, ?_⟩|refine zau rfl ?_|refine zai (f := 106) rfl rfl Tryz.call106 rfl c ?_|fail)
      rw [e, ← znh (n % 10) (by omega)]
      rfl
where
  dlen (n : Nat) (h : n ≤ 1000000) : (Lib.decDigits n).length ≤ 100 := by
    have key : ∀ (k n : Nat), n < 10 ^ k → (Lib.decDigits n).length ≤ k + 1 := by
      intro k
      induction k with
      | zero => intro n hn; rw [Lib.decDigits, dif_pos (by omega)]; simp
      | succ k ih =>
        intro n hn
        rw [Lib.decDigits]
        split
        · simp
        · have := ih (n / 10) (by rw [Nat.pow_succ] at hn; omega)
          simp
          omega
    have := key 7 n (by omega)
    omega
theorem zqq (n : Int) (h0 : -1000000 ≤ n) (h1 : n ≤ 1000000) : Ctr Tryz.prog 106 [.i .i64 n] (.s (Lib.itoa n)) := by
  unfold Lib.itoa
  by_cases h : n < 0
  · rw [if_pos h]
    have c := zex n.natAbs (by omega)
    rw [show ((n.natAbs : Nat) : Int) = -n by omega] at c
    have hl := zex.dlen n.natAbs (by omega)
    generalize Lib.decDigits n.natAbs = ds at c hl ⊢
    refine zaE Tryz.func106 rfl Tryz.ntmps106 Tryz.results106 rfl rfl fun X hL hX => ?_
    repeat' (first |with_reducible (first |refine zag ?_|refine zaa ?_|refine zaf ?_|refine zad ?_|refine zaj ?_|refine zam ?_)|refine zab rfl rfl True.intro ?_|((first |refine zac rfl ?_ ?_)<;>intro<;>try (first |(exfalso;omega)))|((first |refine zab rfl rfl ?_ ?_);focus (first |(simp only [List.length_cons, List.length_nil];omega)|omega|((repeat' refine And.intro ?_ ?_)<;>omega)))|refine zau rfl ?_|refine zai (f := 106) rfl rfl Tryz.call106 rfl c ?_|fail)
    rfl
  · rw [if_neg h]
    have c := zex n.toNat (by omega)
    rwa [show ((n.toNat : Nat) : Int) = n by omega] at c
theorem zhS (n : Int) (h0 : -1000000 ≤ n) (h1 : n ≤ 1000000) : (Lib.itoa n).length ≤ 101 := by
  unfold Lib.itoa
  split
  · have := zex.dlen n.natAbs (by omega)
    simp only [List.length_cons]
    omega
  · have := zex.dlen n.toNat (by omega)
    omega

def numA (a : Nat) (l : List UInt8) : Nat := l.foldl (fun n c => 10 * n + (c.toNat - 48)) a
def numL (l : List UInt8) : Nat := numA 0 l
theorem zpZ (a : Nat) : numA a [] = a := rfl
theorem zgc (a : Nat) (c : UInt8) (l : List UInt8) : numA a (c :: l) = numA (10 * a + (c.toNat - 48)) l := by
  unfold numA
  rw [List.foldl_cons]
theorem zrh (a : Nat) (l m : List UInt8) : numA a (l ++ m) = numA (numA a l) m := by simp [numA]
theorem zsq (l : List UInt8) : ∀ a : Nat, numA a l = a * 10 ^ l.length + numL l := by
  induction l with
  | nil =>
    intro a
    simp [zpZ, numL]
  | cons c l ih =>
    intro a
    have h1 := zgc a c l
    have h2 : numL (c :: l) = numA (10 * 0 + (c.toNat - 48)) l := zgc 0 c l
    rw [h1, h2, ih, ih (10 * 0 + (c.toNat - 48)), List.length_cons, Nat.pow_succ]
    generalize 10 ^ l.length = t
    generalize c.toNat - 48 = d
    have h3 : 10 * a * t = a * (t * 10) := by rw [Nat.mul_comm 10 a, Nat.mul_assoc, Nat.mul_comm 10 t]
    rw [Nat.add_mul, h3, Nat.mul_zero, Nat.zero_add]
    omega
theorem zjO (c : UInt8) (l : List UInt8) : numL (c :: l) = (c.toNat - 48) * 10 ^ l.length + numL l := by
  have : numL (c :: l) = numA (10 * 0 + (c.toNat - 48)) l := zgc 0 c l
  rw [this, zsq]
  simp
theorem zjN (l : List UInt8) (c : UInt8) : numL (l ++ [c]) = 10 * numL l + (c.toNat - 48) := by
  unfold numL
  rw [zrh]
  rfl
theorem zhz {c : UInt8} (h : isD c = true) : 48 ≤ c.toNat ∧ c.toNat ≤ 57 := by
  have := zbE.1 h
  omega
theorem znF : ∀ (l : List UInt8), (∀ c ∈ l, isD c = true) → numL l < 10 ^ l.length
  | [], _ => by decide
  | c :: l, h => by
    have h1 := zhz (h c (by simp))
    have h2 := znF l fun c hc => h c (by simp [hc])
    rw [zjO, List.length_cons, Nat.pow_succ]
    have h3 : (c.toNat - 48) * 10 ^ l.length ≤ 9 * 10 ^ l.length := Nat.mul_le_mul_right _ (by omega)
    omega
theorem zdx {k : Nat} (h : ¬ k < 10) : Lib.decDigits k = Lib.decDigits (k / 10) ++ [UInt8.ofNat (48 + k % 10)] := by rw [Lib.decDigits, dif_neg h]
theorem zbz {k : Nat} (h : k < 10) : Lib.decDigits k = [UInt8.ofNat (48 + k)] := by rw [Lib.decDigits, dif_pos h]
theorem zed {n : Nat} (h : n < 10) : isD (UInt8.ofNat (48 + n)) = true ∧ (UInt8.ofNat (48 + n)).toNat = 48 + n := by
  have : (UInt8.ofNat (48 + n)).toNat = 48 + n := by simp; omega
  exact ⟨zbE.2 (by omega), this⟩
theorem zhy (k : Nat) : ∀ c ∈ Lib.decDigits k, isD c = true := by
  induction k using Nat.strongRecOn with
  | ind k ih =>
    by_cases h : k < 10
    · rw [zbz h]
      intro c hc
      rw [List.mem_singleton.1 hc]
      exact (zed h).1
    · rw [zdx h]
      intro c hc
      rcases List.mem_append.1 hc with hc | hc
      · exact ih (k / 10) (by omega) c hc
      · rw [List.mem_singleton.1 hc]
        exact (zed (by omega)).1
theorem zsx (k : Nat) : numL (Lib.decDigits k) = k := by
  induction k using Nat.strongRecOn with
  | ind k ih =>
    by_cases h : k < 10
    · rw [zbz h, zjO, (zed h).2]
      simp [numL, numA]
    · rw [zdx h, zjN, (zed (by omega)).2, ih (k / 10) (by omega)]
      omega
theorem zgp (k : Nat) (h : ¬ k = 0) : ∃ c l, Lib.decDigits k = c :: l ∧ ¬ c = 48 := by
  induction k using Nat.strongRecOn with
  | ind k ih =>
    by_cases h2 : k < 10
    · refine ⟨_, [], zbz h2, fun h3 => ?_⟩
      have := congrArg UInt8.toNat h3
      rw [(zed h2).2] at this
      have : (48 : UInt8).toNat = 48 := rfl
      omega
    · obtain ⟨c, l, h3, h4⟩ := ih (k / 10) (by omega) (by omega)
      exact ⟨c, l ++ [UInt8.ofNat (48 + k % 10)], by rw [zdx h2, h3]; rfl, h4⟩
theorem zgj (k n : Nat) (h : k < 10 ^ n) (hn : 1 ≤ n) : (Lib.decDigits k).length ≤ n := by
  induction n generalizing k with
  | zero => omega
  | succ n ih =>
    by_cases h2 : k < 10
    · rw [zbz h2]
      simp
    · rw [zdx h2, List.length_append, List.length_singleton]
      rw [Nat.pow_succ] at h
      by_cases hz : n = 0
      · subst hz
        omega
      · have := ih (k / 10) (by omega) (by omega)
        omega
def dig0 (k : Nat) : List UInt8 := if k = 0 then [] else Lib.decDigits k
theorem zoa {k : Nat} (h : ¬ k = 0) : dig0 k = dig0 (k / 10) ++ [UInt8.ofNat (48 + k % 10)] := by
  unfold dig0
  rw [if_neg h]
  by_cases h2 : k < 10
  · rw [zbz h2, if_pos (by omega), show k % 10 = k by omega]
    rfl
  · rw [zdx h2, if_neg (by omega)]
theorem znO (neg : Bool) (e : Int) : normF neg [] e = ((false, [], 0), 0) := rfl
theorem zfN (neg : Bool) (e : Int) : normF neg [48] e = ((false, [], 0), 0) := by
  unfold normF
  rw [if_pos (by decide)]
theorem zoK (neg : Bool) (k : Nat) (e : Int) : normF neg (dig0 k) e = normF neg (Lib.decDigits k) e := by
  unfold dig0
  split
  · rename_i h
    subst h
    rw [znO, show Lib.decDigits 0 = [48] from zbz (by omega), zfN]
  · rfl

theorem zim (s : List UInt8) : s = tR s ++ zs (s.length - (tR s).length) := by
  have key : ∀ (n : Nat) (s : List UInt8), s.length = n → s = tR s ++ zs (s.length - (tR s).length) := by
    intro n
    induction n with
    | zero =>
      intro s h
      obtain rfl := List.length_eq_zero_iff.1 h
      rfl
    | succ n ih =>
      intro s h
      rcases zbv s with rfl | ⟨r, c, rfl⟩
      · simp at h
      · by_cases hc : c = 48
        · subst hc
          rw [zdz]
          have h1 := ih r (by simpa using h)
          have h2 := zjd r
          rw [List.length_append, List.length_singleton, show r.length + 1 - (tR r).length = (r.length - (tR r).length) + 1 by omega]
          unfold zs at h1 ⊢
          rw [List.replicate_succ', ← List.append_assoc, ← h1]
        · rw [zdK r c hc]
          simp
  exact key _ s rfl
theorem zpk (s : List UInt8) : lastOk (tR s) := by
  have key : ∀ (n : Nat) (s : List UInt8), s.length = n → lastOk (tR s) := by
    intro n
    induction n with
    | zero =>
      intro s h
      obtain rfl := List.length_eq_zero_iff.1 h
      intro c r e
      have : tR [] = [] := rfl
      rw [this] at e
      simp at e
    | succ n ih =>
      intro s h
      rcases zbv s with rfl | ⟨r, c, rfl⟩
      · simp at h
      · by_cases hc : c = 48
        · subst hc
          rw [zdz]
          exact ih r (by simpa using h)
        · rw [zdK r c hc]
          intro d q e
          have := congrArg List.getLast? e
          simp at this
          rw [← this]
          exact hc
  exact key _ s rfl
theorem znM {s : List UInt8} (h : lastOk s) : tR s = s := by
  rcases zbv s with rfl | ⟨r, c, rfl⟩
  · rfl
  · exact zdK r c (h c r rfl)
theorem tR_zs (s : List UInt8) (n : Nat) : tR (s ++ zs n) = tR s := by
  induction n with
  | zero => simp
  | succ n ih =>
    unfold zs at ih ⊢
    rw [List.replicate_succ', ← List.append_assoc, zdz, ih]
theorem tL_zs (s : List UInt8) (n : Nat) : tL (zs n ++ s) = tL s := by
  induction n with
  | zero => simp
  | succ n ih =>
    unfold zs at ih ⊢
    rw [List.replicate_succ, List.cons_append]
    unfold tL Lib.trimLeftB at ih ⊢
    rw [List.dropWhile_cons]
    simp
theorem ztt {c : UInt8} {l : List UInt8} (h : ¬ c = 48) : tL (c :: l) = c :: l := by
  unfold tL Lib.trimLeftB
  rw [List.dropWhile_cons]
  simp [h]
theorem zqm {c : UInt8} {l : List UInt8} (h : ¬ c = 48) : ∃ m, tR (c :: l) = c :: m := by
  have h1 := zim (c :: l)
  match hm : tR (c :: l) with
  | [] =>
    rw [hm] at h1
    simp only [List.length_cons, List.length_nil, Nat.sub_zero, List.nil_append] at h1
    unfold zs at h1
    rw [List.replicate_succ] at h1
    exact absurd (List.cons.inj h1).1 h
  | d :: m =>
    rw [hm] at h1
    have := (List.cons.inj h1).1
    exact ⟨m, by rw [this]⟩
def ofF (n e : Int) : Bool × List UInt8 × Int := if e < -2000 ∨ 2000 < e then (false, [], 0) else (normF (decide (n < 0)) (Lib.decDigits n.natAbs) e).1
theorem zic (e : Int) : ofF 0 e = (false, [], 0) := by
  unfold ofF
  split
  · rfl
  · show (normF false (Lib.decDigits 0) e).1 = _
    rw [show Lib.decDigits 0 = [48] from zbz (by omega), zfN]
theorem zpo {n e : Int} (h : ¬ n = 0) (hn : n.natAbs < 10 ^ 19) (h0 : -900 ≤ e) (h1 : e ≤ 900) :
    ofF n e = (decide (n < 0), tR (Lib.decDigits n.natAbs), e + ((Lib.decDigits n.natAbs).length - (tR (Lib.decDigits n.natAbs)).length)) ∧
      RightP (decide (n < 0)) (tR (Lib.decDigits n.natAbs)) (e + ((Lib.decDigits n.natAbs).length - (tR (Lib.decDigits n.natAbs)).length)) := by
  have hl := zgj n.natAbs 19 hn (by omega)
  obtain ⟨c, l, hc, hc2⟩ := zgp n.natAbs (by omega)
  have hd := zhy n.natAbs
  have hs := zim (Lib.decDigits n.natAbs)
  have hk := zpk (Lib.decDigits n.natAbs)
  have hlen := zjd (Lib.decDigits n.natAbs)
  have hf := zqm (l := l) hc2
  rw [← hc] at hf
  unfold ofF normF
  generalize Lib.decDigits n.natAbs = D at *
  obtain ⟨m, hm⟩ := hf
  have hd2 : ∀ c ∈ tR D, isD c = true := fun c h => hd c (by rw [hs]; simp [h])
  rw [hm] at hk hlen hd2 ⊢
  simp only [List.length_cons] at hlen
  rw [if_neg (by omega), ztt hc2, if_neg (by simp), if_neg (by simp only [List.length_cons]; omega), if_neg (by simp only [List.length_cons]; omega)]
  refine ⟨rfl, ?_⟩
  rw [zaP (by simp)]
  refine ⟨fun i hi => zbE.1 (hd2 _ ?_), by simp only [List.length_cons]; omega, fun h => hc2 ((znw (n := 48) (by omega)).1 h), fun h => ?_, by simp only [List.length_cons]; omega, by simp only [List.length_cons]; omega⟩
  · simp only [Int.toNat_natCast, List.getD_eq_getElem?_getD, List.getElem?_eq_getElem hi, Option.getD_some]
    exact List.getElem_mem hi
  · rcases zbv (c :: m) with h2 | ⟨r, w, h2⟩
    · simp at h2
    · rw [h2] at h hk
      have e : ((r ++ [w]).length : Int) - 1 = r.length := by simp
      rw [e, zkd] at h
      exact hk w r rfl ((znw (n := 48) (by omega)).1 h)
theorem ofF_len (n e : Int) (h0 : -9223372036854775808 ≤ n) (h1 : n ≤ 9223372036854775807) : (ofF n e).2.1.length ≤ 1000 := by
  have h := zgj n.natAbs 19 (by omega) (by omega)
  have h2 := zjd (Lib.decDigits n.natAbs)
  have h3 := zoT (tR (Lib.decDigits n.natAbs))
  unfold ofF normF
  repeat' split
  all_goals first | decide | (dsimp only; omega)
theorem zfG (n e : Int) (h0 : -9223372036854775808 ≤ n) (h1 : n ≤ 9223372036854775807) (he : -900 ≤ e) (he1 : e ≤ 900) : RightP (ofF n e).1 (ofF n e).2.1 (ofF n e).2.2 := by
  by_cases h : n = 0
  · subst h
    rw [zic]
    decide
  · obtain ⟨e1, e2⟩ := zpo h (e := e) (by omega) he he1
    rw [e1]
    exact e2
def intF (neg : Bool) (s : List UInt8) (e : Int) : Int × Bool :=
  if ¬ RightP neg s e ∨ e < 0 ∨ 19 < s.length + e then (0, false)
  else if 4611686018427387904 < numL (s ++ zs e.toNat) then (0, false)
  else if neg = true then (-(numL (s ++ zs e.toNat) : Int), true) else ((numL (s ++ zs e.toNat) : Int), true)
theorem zkA (n : Int) (h0 : -4611686018427387904 ≤ n) (h1 : n ≤ 4611686018427387904) : intF (ofF n 0).1 (ofF n 0).2.1 (ofF n 0).2.2 = (n, true) := by
  by_cases h : n = 0
  · subst h
    rw [zic]
    rfl
  · obtain ⟨e1, e2⟩ := zpo h (e := 0) (by omega) (by omega) (by omega)
    rw [e1]
    have hs := zim (Lib.decDigits n.natAbs)
    have hn := zsx n.natAbs
    have hl := zgj n.natAbs 19 (by omega) (by omega)
    have hlen := zjd (Lib.decDigits n.natAbs)
    generalize Lib.decDigits n.natAbs = D at *
    dsimp only
    unfold intF
    rw [if_neg (fun h => h.elim (fun h => h e2) (fun h => by omega)), show (0 + ((D.length : Int) - (tR D).length)).toNat = D.length - (tR D).length by omega, ← hs, hn, if_neg (by omega)]
    by_cases hn0 : n < 0
    · rw [if_pos (decide_eq_true hn0)]
      congr 1
      omega
    · rw [if_neg (by simp; omega)]
      congr 1
      omega

theorem zqW {S : Cells} {w : World} (hg : GOk S w) : Lib.TabIs Tryz.prog w "internal/strconv.uint64pow10" .u64 Lib.pow10Tab := by
  have hn : Tryz.prog.globalNamed "internal/strconv.uint64pow10" = some 3 := by kernel_rfl
  have h1 := hg.rel 3
  have h2 := (hg.len 3 20 rfl).2
  have h3 : ∀ j, j < 20 → w.cell? ⟨3, j, none⟩ = some (.int .u64 (powZ j)) := by
    cases h1 with
    | rn _ _ _ _ _ _ h => exact fun j hj => (h j hj).2
  have h0 := h3 0 (by decide)
  unfold Lib.TabIs
  simp only [World.var?, hn, Option.bind_some]
  cases hh : w.heap[3]? with
  | none => simp [World.cell?, hh] at h0
  | some o =>
    cases o with
    | cells cs t fr =>
      simp only [Option.some.injEq]
      have h4 : ∀ j, j < 20 → cs[j]? = some (.int .u64 (powZ j)) := fun j hj => by
        have := h3 j hj
        simpa [World.cell?, hh] using this
      have h5 : cs[20]? = none := by simpa [World.cell?, hh] using h2
      apply Array.ext_getElem?
      intro j
      by_cases hj : j < 20
      · rw [h4 j hj]
        simp [Lib.pow10Tab, hj, powZ]
      · have : cs.size ≤ 20 := by simpa using h5
        rw [Array.getElem?_eq_none (by omega), Array.getElem?_eq_none (by simp [Lib.pow10Tab]; omega)]
    | _ => simp [World.cell?, hh] at h0
theorem zli (n : Int) (h0 : -9223372036854775808 ≤ n) (h1 : n ≤ 9223372036854775807) : Ctr Tryz.prog 94 [.i .i64 n] (.s (Lib.itoa n)) := by
  intro w S vs hv hg hn hr
  have h := hr 0 (by simp)
  rw [ztG hn]
  generalize vs.getD 0 undef = v0 at *
  cases h
  refine (Tryz.strconv_Itoa n h0 h1 w (zqW hg)).mono ?_
  rintro e w' ⟨rfl, k, os, rfl⟩
  exact ⟨_, S, rfl, .s _ _, zgL hv hg (zkf w k os)⟩

theorem zpT (n : Int) : (n < 0 → Lib.itoa n = 45 :: Lib.decDigits n.natAbs) ∧ (¬ n < 0 → Lib.itoa n = Lib.decDigits n.natAbs) := by
  unfold Lib.itoa
  constructor
  · intro h
    rw [if_pos h]
  · intro h
    rw [if_neg h, show n.toNat = n.natAbs by omega]
theorem ztj (n e : Int) (h0 : -9223372036854775808 ≤ n) (h1 : n ≤ 9223372036854775807) : Ctr Tryz.prog 64 [.i .i64 n, .i .i64 e] (dcV (ofF n e)) := by
  have c1 := zli n h0 h1
  obtain ⟨i1, i2⟩ := zpT n
  have hlD := zgj n.natAbs 19 (by omega) (by omega)
  have c2 := fun h : -2000 ≤ e ∧ e ≤ 2000 => zlq (decide (n < 0)) (Lib.decDigits n.natAbs) e (by omega) (by omega) (by omega)
  generalize hR : ofF n e = R
  unfold ofF at hR
  replace hR := fun _ : Unit => hR.symm
  generalize normF (decide (n < 0)) (Lib.decDigits n.natAbs) e = N at *
  by_cases hn : n < 0
  · rw [i1 hn] at c1
    clear i1 i2
    generalize Lib.decDigits n.natAbs = D at *
    have hD : List.drop (Int.toNat 1) (List.take (((45 :: D).length : Nat) : Int).toNat (45 :: D)) = D := by
      rw [Int.toNat_natCast, List.take_length]
      rfl
    rw [← hD] at c2
    clear hD
    refine zaE Tryz.func64 rfl Tryz.ntmps64 Tryz.results64 rfl rfl fun X hL hX => ?_
    repeat' (first |with_reducible (first |refine zag ?_|refine zaa ?_|refine zaf ?_|refine zad ?_|refine zaj ?_|refine zah ?_|refine zam ?_)|refine zab rfl rfl True.intro ?_|refine zat rfl rfl rfl ?_|refine zak rfl rfl rfl rfl True.intro ?_|refine zav rfl ?_|((first |refine zac rfl ?_ ?_|refine zan rfl rfl ?_ ?_)<;>intro<;>try (first |(exfalso;omega)))|((first |refine zab rfl rfl ?_ ?_|refine zao rfl rfl ?_ ?_|refine zaw rfl ?_ ?_);focus (first |(simp only [List.length_cons];omega)|exact le_ rfl|((repeat' refine And.intro ?_ ?_)<;>omega)|((repeat' refine And.intro ?_ ?_)<;>first |rfl|exact Nat.le_refl _)))|refine zau rfl ?_|refine zai (f := 94) rfl rfl Tryz.call94 rfl c1 ?_|refine zai (f := 95) rfl rfl Tryz.call95 rfl (c2 (by omega)) ?_|fail)
    all_goals
      rw [hR ()]
      first
        | rw [if_pos (by omega)]; done
        | (rw [if_pos (by omega)]; rfl)
        | rw [if_neg (by omega)]; done
        | (rw [if_neg (by omega)]; rfl)
  · rw [i2 hn] at c1
    clear i1 i2
    generalize Lib.decDigits n.natAbs = D at *
    refine zaE Tryz.func64 rfl Tryz.ntmps64 Tryz.results64 rfl rfl fun X hL hX => ?_
    repeat' (first |with_reducible (first |refine zag ?_|refine zaa ?_|refine zaf ?_|refine zad ?_|refine zaj ?_|refine zah ?_|refine zam ?_)|refine zab rfl rfl True.intro ?_|refine zat rfl rfl rfl ?_|refine zak rfl rfl rfl rfl True.intro ?_|refine zav rfl ?_|((first |refine zac rfl ?_ ?_|refine zan rfl rfl ?_ ?_)<;>intro<;>try (first |(exfalso;omega)))|((first |refine zab rfl rfl ?_ ?_|refine zao rfl rfl ?_ ?_|refine zaw rfl ?_ ?_);focus (first |exact le_ rfl|((repeat' refine And.intro ?_ ?_)<;>omega)|((repeat' refine And.intro ?_ ?_)<;>first |rfl|exact Nat.le_refl _)))|refine zau rfl ?_|refine zai (f := 94) rfl rfl Tryz.call94 rfl c1 ?_|refine zai (f := 95) rfl rfl Tryz.call95 rfl (c2 (by omega)) ?_|fail)
    all_goals
      rw [hR ()]
      first
        | rw [if_pos (by omega)]; done
        | (rw [if_pos (by omega)]; rfl)
        | rw [if_neg (by omega)]; done
        | (rw [if_neg (by omega)]; rfl)

def txJ (s : Txt) : J := .mk 3 false false [] 0 s [] []
def boolJ (b : Bool) : J := .mk 1 b false [] 0 [] [] []
def listJ (l : List J) : J := .mk 4 false false [] 0 [] l []
def mapJ (l : List J) (ks : List Txt) : J := .mk 5 false false [] 0 [] l ks
def numJ (n : Int) : J := .mk 2 false (ofF n 0).1 (ofF n 0).2.1 (ofF n 0).2.2 [] [] []
def xG (l : List J) (ks : List Txt) : List D := [.i .i64 5, .b false, .b false, .s [], .i .i64 0, .s [], .gs 101 8 l.length (jF l), .gs 102 1 ks.length (txF ks)]
def xR (l : List J) (ks : List Txt) : Ow := [(101, .row 55 8 l.length), (102, .row 9 1 ks.length)]
theorem zse (x : J) (gf : Nat → List D) (hg : gf 0 = jP x) : catF 0 (jF []) 1 gf = jF [x] := zfi [] x gf (by rw [zlu]; exact hg)
theorem zsb (v : Txt) (gf : Nat → List D) (hg : gf 0 = [.s v]) : catF 0 (txF []) 1 gf = txF [v] := zin [] v gf hg
set_option maxRecDepth 100000 in
set_option maxHeartbeats 2000000 in
theorem ziM (y : J) (key : Txt) : CtrO Tryz.prog 33 [.ag j0C, .s key, .ag (jP y)] [] (.ag (xG [y] [key])) (xR [y] [key]) := by
  have e1 := zse y (chunk 8 (jP y)) rfl
  have e2 := zsb key (chunk 1 [.s key]) rfl
  refine zcU (ids := []) (ids2 := [101, 102]) Tryz.func33 rfl Tryz.ntmps33 Tryz.results33 rfl rfl rfl (fun _ h => by cases h) rfl rfl fun X hL hX => ?_
  repeat' (first |refine T.adoptV 3 6 101 55 8 _ (jF []) rfl rfl rfl ?_|refine T.adoptV 3 7 102 9 1 _ (txF []) rfl rfl rfl ?_|with_reducible (first |refine zag ?_|refine zaa ?_|refine zaf ?_|refine zad ?_|refine zaj ?_|refine zaB ?_)|refine zab rfl rfl True.intro ?_|((first |refine zab rfl rfl ?_ ?_|refine zao rfl rfl ?_ ?_|refine zaw rfl ?_ ?_);focus (first |exact le_ rfl|((repeat' refine And.intro ?_ ?_)<;>omega)|((repeat' refine And.intro ?_ ?_)<;>first |omega|rfl|exact Nat.le_refl _|exact le_ rfl)))|with_reducible refine ⟨by kernel_rfl, ?_⟩|refine zfg rfl ?_ ?_|fail)
  · refine .of_eq ?_
    show D.ag [.i .i64 5, .b false, .b false, .s [], .i .i64 0, .s [], .gs 101 8 1 (catF 0 (jF []) 1 (chunk 8 (jP y))), .gs 102 1 1 (catF 0 (txF []) 1 (chunk 1 [.s key]))] = _
    rw [e1, e2]
    rfl
  · exact ⟨⟨rfl, rfl, trivial⟩⟩
set_option maxRecDepth 100000 in
set_option maxHeartbeats 2000000 in
theorem zbs (l : List J) (ks : List Txt) (y : J) (key : Txt) (hl : l.length ≤ 4194304) (hk : ks.length ≤ 4194304) : CtrO Tryz.prog 33 [.ag (xG l ks), .s key, .ag (jP y)] (xR l ks) (.ag (xG (l ++ [y]) (ks ++ [key]))) (xR (l ++ [y]) (ks ++ [key])) := by
  have e1 := zfi l y (chunk 8 (jP y)) (by rw [zlu]; rfl)
  have e2 := zin ks key (chunk 1 [.s key]) rfl
  have h1 : (l ++ [y]).length = l.length + 1 := by simp
  have h2 : (ks ++ [key]).length = ks.length + 1 := by simp
  refine zcU (ids := [101, 102]) (ids2 := [101, 102]) Tryz.func33 rfl Tryz.ntmps33 Tryz.results33 rfl rfl rfl (fun _ h => h) rfl rfl fun X hL hX => ?_
  repeat' (first |with_reducible (first |refine zag ?_|refine zaa ?_|refine zaf ?_|refine zad ?_|refine zaj ?_|refine zaB ?_)|refine zab rfl rfl True.intro ?_|((first |refine zab rfl rfl ?_ ?_|refine zao rfl rfl ?_ ?_|refine zaw rfl ?_ ?_);focus (first |exact le_ rfl|((repeat' refine And.intro ?_ ?_)<;>omega)|((repeat' refine And.intro ?_ ?_)<;>first |omega|rfl|exact Nat.le_refl _|exact le_ rfl)))|with_reducible refine ⟨by kernel_rfl, ?_⟩|refine zfg rfl ?_ ?_|fail)
  · refine .of_eq ?_
    unfold xG
    rw [h1, h2, ← e1, ← e2]
    rfl
  · unfold xR
    rw [h1, h2]
    exact ⟨⟨rfl, rfl, trivial⟩⟩
theorem zdB (l : List J) : Weak (.ag [.i .i64 4, .b false, .b false, .s [], .i .i64 0, .s [], .sl 8 l.length (jF l), .nilS]) (.ag (jP (listJ l))) := .ag _ _ rfl fun j hj => match j, hj with
  | 0, _ => .refl _
  | 1, _ => .refl _
  | 2, _ => .refl _
  | 3, _ => .refl _
  | 4, _ => .refl _
  | 5, _ => .refl _
  | 6, _ => .refl _
  | 7, _ => .nil 1 _
theorem zgR (b : Bool) : Weak (.ag [.i .i64 1, .b b, .b false, .s [], .i .i64 0, .s [], .nilS, .nilS]) (.ag (jP (boolJ b))) := by
  rw [← zlu]
  exact zcx 1 b false [] 0 []
theorem CtrO.weakThird {P : Program} {f : FuncId} {x k a a' : D} {ow ow' : Ow} {d : D} (h : CtrO P f [x, k, a'] ow d ow') (hw : Weak a a') : CtrO P f [x, k, a] ow d ow' := h.weakArgs rfl fun j hj => match j, hj with
  | 0, _ => .refl _
  | 1, _ => .refl _
  | 2, _ => hw
theorem zeA {α β : Type} {f : α → β} {d : α} {l : List α} {i : Nat} (hi : i < l.length) : (l.take (i + 1)).map f = (l.take i).map f ++ [f (l.getD i d)] := by
  rw [List.take_add_one, List.map_append]
  simp [List.getD_eq_getElem?_getD, hi]
set_option maxRecDepth 100000 in
set_option maxHeartbeats 2000000 in
theorem zfI (ts : List Txt) (ht : ts.length ≤ 4194304) : Ctr Tryz.prog 62 [.sl 1 ts.length (txF ts)] (.ag (jP (listJ (ts.map txJ)))) := by
  refine zaE Tryz.func62 rfl Tryz.ntmps62 Tryz.results62 rfl rfl fun X hL hX => ?_
  repeat' (first |refine T.adoptV 3 6 101 55 8 _ (jF []) rfl rfl rfl ?_|with_reducible (first |refine zag ?_|refine zaa ?_|refine zaf ?_|refine zad ?_|refine zae ?_)|refine zab rfl rfl True.intro ?_|((first |refine zao rfl rfl ?_ ?_|refine zaw rfl ?_ ?_);focus (first |((repeat' refine And.intro ?_ ?_)<;>omega)|((repeat' refine And.intro ?_ ?_)<;>first |rfl|exact Nat.le_refl _)))|fail)
  refine T.loop hL (fun i : Nat => [(2, .pv 2 0), (3, .pv 3 0), (7, .sl 1 ts.length (txF ts)), (8, .i .i64 ts.length), (9, .i .i64 i)]) (fun i => [(2, .var j0C), (3, .var [.i .i64 4, .b false, .b false, .s [], .i .i64 0, .s [], .gs 101 8 ((ts.take i).map txJ).length (jF ((ts.take i).map txJ)), .nilS]), (101, .row 55 8 ((ts.take i).map txJ).length)])
    (fun i => i ≤ ts.length ∧ ((ts.take i).map txJ).length = i) (fun i => ts.length - i) 0 ⟨Nat.zero_le _, by simp⟩
    ⟨⟨rfl, rfl, rfl, rfl, rfl, trivial⟩, ⟨rfl, rfl, rfl, trivial⟩, rfl, by rw [hX]; simp⟩ ?_
  rintro i ⟨g1, g2⟩
  try dsimp only at g1 g2 ⊢
  have hnat : (i : Int).toNat = i := Int.toNat_natCast i
  by_cases hil : i < ts.length
  · have hil' : (i : Int) < ts.length := by omega
    have c := zeL (ts.getD (i : Int).toNat [])
    have e := zeA (f := txJ) (d := []) hil
    have e1 := zfi ((ts.take i).map txJ) (txJ (ts.getD (i : Int).toNat [])) (chunk 8 (jP (txJ (ts.getD (i : Int).toNat [])))) (by rw [zlu]; rfl)
    rw [hnat] at e1
    have g3 : ((ts.take (i + 1)).map txJ).length = ((ts.take i).map txJ).length + 1 := by rw [e, List.length_append]; rfl
    repeat' (first |refine zai (f := 34) rfl rfl Tryz.call34 rfl c ?_|with_reducible (first |refine zag ?_|refine zaa ?_|refine zaf ?_|refine zad ?_|refine zah ?_|refine zae ?_|refine zap ?_|refine zaB ?_)|refine zab rfl rfl True.intro ?_|((first |refine zac rfl ?_ ?_)<;>intro<;>try (first |(exfalso;omega)))|((first |refine zab rfl rfl ?_ ?_|refine zao rfl rfl ?_ ?_|refine zaw rfl ?_ ?_);focus (first |omega|exact le_ rfl|((repeat' refine And.intro ?_ ?_)<;>omega)|((repeat' refine And.intro ?_ ?_)<;>first |omega|rfl|exact le_ rfl)))|with_reducible refine ⟨by kernel_rfl, ?_⟩|fail)
    all_goals exact ⟨i + 1, ⟨by omega, by omega⟩, by omega, ⟨rfl, rfl, rfl, rfl, rfl, trivial⟩, ⟨rfl, by rw [g3, e, ← e1, ← hnat]; rfl, by rw [g3]; rfl, trivial⟩, rfl, by rw [hX]; simp⟩
  have hil' : ¬ (i : Int) < ts.length := by omega
  have ea : ts.take i = ts := List.take_of_length_le (by omega)
  rw [ea]
  repeat' (first |with_reducible (first |refine zag ?_|refine zaa ?_|refine zaf ?_|refine zad ?_|refine zaj ?_|refine zaA ?_|refine zaz ?_)|refine zab rfl rfl True.intro ?_|((first |refine zac rfl ?_ ?_)<;>intro<;>try (first |(exfalso;omega)))|((first |refine zab rfl rfl ?_ ?_|refine zaw rfl ?_ ?_);focus (first |exact le_ rfl|((repeat' refine And.intro ?_ ?_)<;>omega)|((repeat' refine And.intro ?_ ?_)<;>first |rfl|exact Nat.le_refl _)))|refine zaO rfl ?_|refine zbp rfl ?_|fail)
  all_goals exact zdB _
theorem zhN (n : Int) (h0 : -9223372036854775808 ≤ n) (h1 : n ≤ 9223372036854775807) : Ctr Tryz.prog 35 [.i .i64 n] (.ag (jP (numJ n))) := by
  have c1 := ztj n 0 h0 h1
  have c2 := zql (ofF n 0).1 (ofF n 0).2.1 (ofF n 0).2.2
  refine zaE Tryz.func35 rfl Tryz.ntmps35 Tryz.results35 rfl rfl fun X hL hX => ?_
  repeat' (first |refine zai (f := 64) rfl rfl Tryz.call64 rfl c1 ?_|refine zai (f := 63) rfl rfl Tryz.call63 rfl c2 ?_|with_reducible (first |refine zag ?_|refine zaa ?_|refine zaf ?_|refine zad ?_|refine zaj ?_)|refine zab rfl rfl True.intro ?_|((first |refine zao rfl rfl ?_ ?_|refine zaw rfl ?_ ?_);focus (first |((repeat' refine And.intro ?_ ?_)<;>omega)|((repeat' refine And.intro ?_ ?_)<;>first |rfl|exact Nat.le_refl _)))|refine zbp rfl ?_|fail)
  all_goals exact .of_eq rfl
end Go.Proofs.YtcajofhafpkbdaaGreatDoor.Flow
