/- The texts D8, J3, J4, one behind the other. -/
import Derived.Test.YtcajofhafpkbdaaGreatDoorCQ11
import Derived.Test.YtcajofhafpkbdaaGreatDoorCQ15
import Derived.Test.YtcajofhafpkbdaaGreatDoorCQ16
namespace Go.Proofs.YtcajofhafpkbdaaGreatDoor.Flow
open Go
abbrev pOw (s : List UInt8) (i : Int) : Ow := [(5, .var [.i .i64 i]), (6, .var [pF]), (1, .var [.s s]), (2, .var [.b false, .s [], .i .i64 0])]
abbrev pG : D := .fn 136 [.pv 5 0, .pv 6 0, .pv 1 0]
theorem zhI (a : UInt8) (n : Int) (hn : (a.toNat : Int) = n) (s : List UInt8) (i : Nat) (hs : s.length ≤ 1048576) (hi : i ≤ s.length) : CtrO Tryz.prog 135 [.s [a], .pv 5 0, .pv 1 0] (pO s i) (.b (decide (sat s i n))) (pO s i) := by
  subst hn
  exact zmK [a] (fun c => c = (a.toNat : Int)) (set_1 a) s i hs hi
theorem zny (a b : UInt8) (n m : Int) (hn : (a.toNat : Int) = n) (hm : (b.toNat : Int) = m) (s : List UInt8) (i : Nat) (hs : s.length ≤ 1048576) (hi : i ≤ s.length) : CtrO Tryz.prog 135 [.s [a, b], .pv 5 0, .pv 1 0] (pO s i) (.b (decide (sat s i n ∨ sat s i m))) (pO s i) := by
  subst hn hm
  have := zmK [a, b] (fun c => c = (a.toNat : Int) ∨ c = (b.toNat : Int)) (set_2 a b) s i hs hi
  rwa [show decide (i < s.length ∧ (at' s i = (a.toNat : Int) ∨ at' s i = (b.toNat : Int))) = decide (sat s i (a.toNat : Int) ∨ sat s i (b.toNat : Int)) from decide_eq_decide.2 (by unfold sat; constructor <;> intro h <;> omega)] at this
section
variable {s : List UInt8} {i : Nat}
theorem zjm (h : sat s i 48) : whN s i = ([48], i + 1) := if_pos h
theorem zjS (h : ¬ sat s i 48) : whN s i = (dgT s i, i + (dgT s i).length) := if_neg h
theorem zqm (h : i ≤ s.length) : (whN s i).2 ≤ s.length := by
  have := zbt s i
  unfold whN
  split
  · rename_i h1
    have := h1.1
    dsimp only
    omega
  · dsimp only
    omega
theorem zju (h : sat s i 46) (h2 : ¬ dgT s (i + 1) = []) : frN s i = (dgT s (i + 1), i + 1 + (dgT s (i + 1)).length) := if_pos ⟨h, h2⟩
theorem zjN (h : ¬ sat s i 46 ∨ dgT s (i + 1) = []) : frN s i = ([], i) := if_neg fun h2 => by
  rcases h with h | h
  · exact h h2.1
  · exact h2.2 h
theorem zqv (h : i ≤ s.length) : (frN s i).2 ≤ s.length := by
  have := zbt s (i + 1)
  unfold frN
  split
  · rename_i h1
    have := h1.1.1
    dsimp only
    omega
  · exact h
theorem zsf (h : i ≤ s.length) : sgN s i ≤ s.length := by
  unfold sgN
  split
  · rename_i h1
    rcases h1 with h1 | h1
    · exact h1.1
    · exact h1.1
  · exact h
theorem zfA {pw : List UInt8 → Int} (h : ¬ (sat s i 101 ∨ sat s i 69) ∨ dgT s (sgN s (i + 1)) = []) : exN pw s i = (0, i) := if_neg fun h2 => by
  rcases h with h | h
  · exact h h2.1
  · exact h2.2 h
theorem zhJ {pw : List UInt8 → Int} (h : sat s i 101 ∨ sat s i 69) (h2 : ¬ dgT s (sgN s (i + 1)) = []) : exN pw s i = (if sat s (i + 1) 45 then -pw (dgT s (sgN s (i + 1))) else pw (dgT s (sgN s (i + 1))), sgN s (i + 1) + (dgT s (sgN s (i + 1))).length) := if_pos ⟨h, h2⟩
theorem zql : sg0 s ≤ s.length := by
  unfold sg0
  split
  · rename_i h
    exact h.1
  · exact Nat.zero_le _
end
set_option maxHeartbeats 4000000 in
theorem znj (s : List UInt8) (hs : s.length ≤ 1048576) : Ctr Tryz.prog 111 [.s s] (.tu [dcV (parseG powP s).1, .i .i64 (parseG powP s).2.1, .i .i64 (parseG powP s).2.2]) := by
  generalize hR : parseG powP s = R
  unfold parseG at hR
  replace hR := fun _ : Unit => hR.symm
  refine zay Tryz.func111 rfl Tryz.ntmps111 Tryz.results111 rfl rfl fun X hL hX => ?_
  have c1 := zhI 45 45 rfl s 0 hs (Nat.zero_le _)
  have e5 : sat s 0 45 → (0 : Int) + 1 = (sg0 s : Int) := fun h => by unfold sg0; rw [if_pos h]; rfl
  have e5' : ¬ sat s 0 45 → (0 : Int) = (sg0 s : Int) := fun h => by unfold sg0; rw [if_neg h]; rfl
  repeat' (first |refine zgg 5 hL (fun _ : Unit => [(2, .pv 2 0), (5, .pv 5 0), (6, .pv 6 0), (7, pG), (8, .b (decide (sat s 0 45)))]) (fun _ => pOw s (sg0 s)) (fun _ => True) ?_ ?_|with_reducible (first |refine zag ?_|refine zaa ?_|refine zaf ?_|refine zad ?_|refine zai ?_)|refine zab rfl rfl True.intro ?_|((first |refine zac rfl ?_ ?_)<;>intro)|((first |refine zab rfl rfl ?_ ?_|refine zao rfl rfl ?_ ?_|refine zar rfl ?_ ?_);focus (first |omega|exact le_ rfl|((repeat' refine And.intro ?_ ?_)<;>omega)|((repeat' refine And.intro ?_ ?_)<;>first |rfl|exact Nat.le_refl _)))|refine zaC (f := 135) 5 1 rfl rfl Tryz.call135 rfl rfl rfl rfl rfl rfl rfl rfl rfl c1 ?_|fail)
  · exact ⟨(), trivial, ⟨rfl, rfl, rfl, rfl, rfl, trivial⟩, ⟨congrArg (fun x => some (Own.var [.i .i64 x])) (e5 ‹_›), rfl, rfl, rfl, trivial⟩, rfl, by rw [hX]; intro k hk; cases hk⟩
  · exact ⟨(), trivial, ⟨rfl, rfl, rfl, rfl, rfl, trivial⟩, ⟨congrArg (fun x => some (Own.var [.i .i64 x])) (e5' ‹_›), rfl, rfl, rfl, trivial⟩, rfl, by rw [hX]; intro k hk; cases hk⟩
  clear c1 e5 e5'
  intro _ _
  have hi := zql (s := s)
  generalize sg0 s = i at hR hi ⊢
  have c1 := zhI 48 48 rfl s i hs hi
  have c2 := zdo s i hs hi
  have L1 := fun h => zjm (s := s) (i := i) h
  have L2 := fun h => zjS (s := s) (i := i) h
  repeat' (first |refine zgg 8 hL (fun _ : Unit => [(2, .pv 2 0), (5, .pv 5 0), (6, .pv 6 0), (7, pG), (8, .b (decide (sat s 0 45))), (9, .s (whN s i).1)]) (fun _ => pOw s (whN s i).2) (fun _ => ¬ (whN s i).1 = []) ?_ ?_|with_reducible (first |refine zag ?_|refine zaa ?_|refine zaf ?_|refine zad ?_|refine zaj ?_|refine zai ?_|refine zal ?_)|refine zab rfl rfl True.intro ?_|((first |refine zac rfl ?_ ?_|refine zbx rfl ?_ ?_)<;>intro)|((first |refine zab rfl rfl ?_ ?_|refine zar rfl ?_ ?_);focus (first |omega|exact le_ rfl|((repeat' refine And.intro ?_ ?_)<;>omega)|((repeat' refine And.intro ?_ ?_)<;>first |rfl|exact Nat.le_refl _)))|refine zaw rfl ?_|refine zaC (f := 135) 5 1 rfl rfl Tryz.call135 rfl rfl rfl rfl rfl rfl rfl rfl rfl c1 ?_|refine zhK (f := 136) 5 6 1 rfl rfl Tryz.call136 rfl rfl rfl rfl rfl rfl rfl rfl rfl rfl rfl rfl c2 ?_|fail)
  · rw [L1 ‹_›]
    exact ⟨(), by simp, ⟨rfl, rfl, rfl, rfl, rfl, rfl, trivial⟩, ⟨rfl, rfl, rfl, rfl, trivial⟩, rfl, by rw [hX]; intro k hk; cases hk⟩
  · rename_i h1 h2
    rw [hR (), if_pos (by rw [L2 h1]; exact h2)]
    rfl
  · rename_i h1 h2
    rw [L2 h1]
    exact ⟨(), h2, ⟨rfl, rfl, rfl, rfl, rfl, rfl, trivial⟩, ⟨rfl, rfl, rfl, rfl, trivial⟩, rfl, by rw [hX]; intro k hk; cases hk⟩
  clear c1 c2 L1 L2
  intro _ hw
  replace hR := fun _ : Unit => (hR ()).trans (if_neg hw)
  dsimp only at hR
  have hj := zqm hi
  have lw : (whN s i).1.length ≤ 1048577 := by
    have := zbt s i
    unfold whN
    split <;> dsimp only [List.length_cons, List.length_nil] <;> omega
  generalize whN s i = W at hR hw hj lw ⊢
  obtain ⟨w, j⟩ := W
  dsimp only at hR hw hj lw ⊢
  clear hi hw i
  have c1 := zhI 46 46 rfl s j hs hj
  have c2 := fun h : sat s j 46 => zdo s (j + 1) hs h.1
  have L1 := fun h h2 => zju (s := s) (i := j) h h2
  have L2 := fun h => zjN (s := s) (i := j) h
  repeat' (first |refine zgg 15 hL (fun _ : Unit => [(2, .pv 2 0), (5, .pv 5 0), (6, .pv 6 0), (7, pG), (8, .b (decide (sat s 0 45))), (9, .s w), (10, .s (frN s j).1)]) (fun _ => pOw s (frN s j).2) (fun _ => True) ?_ ?_|with_reducible (first |refine zag ?_|refine zaa ?_|refine zaf ?_|refine zad ?_|refine zai ?_)|refine zab rfl rfl True.intro ?_|((first |refine zac rfl ?_ ?_|refine zbx rfl ?_ ?_)<;>intro)|((first |refine zab rfl rfl ?_ ?_|refine zar rfl ?_ ?_);focus (first |omega|exact le_ rfl|((repeat' refine And.intro ?_ ?_)<;>omega)|((repeat' refine And.intro ?_ ?_)<;>first |rfl|exact Nat.le_refl _)))|refine zaC (f := 135) 5 1 rfl rfl Tryz.call135 rfl rfl rfl rfl rfl rfl rfl rfl rfl c1 ?_|refine zhK (f := 136) 5 6 1 rfl rfl Tryz.call136 rfl rfl rfl rfl rfl rfl rfl rfl rfl rfl rfl rfl (c2 ‹_›) ?_|fail)
  · rename_i h1 h2
    rw [L2 (.inr h2)]
    exact ⟨(), trivial, ⟨rfl, rfl, rfl, rfl, rfl, rfl, congrArg D.s h2, trivial⟩, ⟨rfl, rfl, rfl, rfl, trivial⟩, rfl, by rw [hX]; intro k hk; cases hk⟩
  · rename_i h1 h2
    rw [L1 h1 h2]
    exact ⟨(), trivial, ⟨rfl, rfl, rfl, rfl, rfl, rfl, rfl, trivial⟩, ⟨rfl, rfl, rfl, rfl, trivial⟩, rfl, by rw [hX]; intro k hk; cases hk⟩
  · rename_i h1
    rw [L2 (.inl h1)]
    exact ⟨(), trivial, ⟨rfl, rfl, rfl, rfl, rfl, rfl, rfl, trivial⟩, ⟨rfl, rfl, rfl, rfl, trivial⟩, rfl, by rw [hX]; intro k hk; cases hk⟩
  clear c1 c2 L1 L2
  intro _ _
  have hk := zqv hj
  have lf : (frN s j).1.length ≤ 1048577 := by
    have := zbt s (j + 1)
    unfold frN
    split <;> dsimp only [List.length_cons, List.length_nil] <;> omega
  generalize frN s j = W at hR hk lf ⊢
  obtain ⟨f, k⟩ := W
  dsimp only at hR hk lf ⊢
  have c1 := zny 101 69 101 69 rfl rfl s k hs hk
  have c2 := fun h : k + 1 ≤ s.length => zhI 45 45 rfl s (k + 1) hs h
  have c3 := fun h : k + 1 ≤ s.length => zny 43 45 43 45 rfl rfl s (k + 1) hs h
  have c4a := fun (h : k + 1 ≤ s.length) (h2 : sat s (k + 1) 43 ∨ sat s (k + 1) 45) => zdo s (k + 1 + 1) hs (by rcases h2 with h2 | h2; exact h2.1; exact h2.1)
  have c4b := fun (h : k + 1 ≤ s.length) (_ : ¬ (sat s (k + 1) 43 ∨ sat s (k + 1) 45)) => zdo s (k + 1) hs h
  have c5 := fun p => zot (dgT s p) (zcL _ _) (by have := zbt s p; omega)
  have hp := fun p => (⟨(zni (dgT s p) (zcL _ _)).1, zom (dgT s p) 0 (by omega)⟩ : 0 ≤ powP (dgT s p) ∧ powP (dgT s p) ≤ 1099511627776)
  have hp1 := hp (k + 1)
  have hp2 := hp (k + 1 + 1)
  have hs1 : (sat s k 101 ∨ sat s k 69) → k + 1 ≤ s.length := fun h => by
    rcases h with h | h
    · exact h.1
    · exact h.1
  have g1 : (sat s (k + 1) 43 ∨ sat s (k + 1) 45) → sgN s (k + 1) = k + 1 + 1 := fun h => if_pos h
  have g2 : ¬ (sat s (k + 1) 43 ∨ sat s (k + 1) 45) → sgN s (k + 1) = k + 1 := fun h => if_neg h
  have L1 : ∀ p, sgN s (k + 1) = p → (sat s k 101 ∨ sat s k 69) → ¬ dgT s p = [] → exN powP s k = (if sat s (k + 1) 45 then -powP (dgT s p) else powP (dgT s p), p + (dgT s p).length) := fun p hp h h2 => by
    subst hp
    exact zhJ h h2
  have L2 : ∀ p, sgN s (k + 1) = p → dgT s p = [] → exN powP s k = (0, k) := fun p hp h => by
    subst hp
    exact zfA (.inr h)
  have L3 := fun h => zfA (s := s) (i := k) (pw := powP) (.inl h)
  repeat' (first |refine zgg 22 hL (fun _ : Unit => [(2, .pv 2 0), (5, .pv 5 0), (8, .b (decide (sat s 0 45))), (9, .s w), (10, .s f), (12, .i .i64 (exN powP s k).1)]) (fun _ => pOw s (exN powP s k).2) (fun _ => True) ?_ ?_|with_reducible (first |refine zag ?_|refine zaa ?_|refine zaf ?_|refine zad ?_|refine zai ?_)|refine zab rfl rfl True.intro ?_|((first |refine zac rfl ?_ ?_|refine zbx rfl ?_ ?_)<;>intro)|((first |refine zab rfl rfl ?_ ?_|refine zar rfl ?_ ?_);focus (first |omega|exact le_ rfl|((repeat' refine And.intro ?_ ?_)<;>omega)|((repeat' refine And.intro ?_ ?_)<;>first |rfl|exact Nat.le_refl _)))|refine zaC (f := 135) 5 1 rfl rfl Tryz.call135 rfl rfl rfl rfl rfl rfl rfl rfl rfl c1 ?_|refine zaC (f := 135) 5 1 rfl rfl Tryz.call135 rfl rfl rfl rfl rfl rfl rfl rfl rfl (c2 (hs1 ‹_›)) ?_|refine zaC (f := 135) 5 1 rfl rfl Tryz.call135 rfl rfl rfl rfl rfl rfl rfl rfl rfl (c3 (hs1 ‹_›)) ?_|refine zhK (f := 136) 5 6 1 rfl rfl Tryz.call136 rfl rfl rfl rfl rfl rfl rfl rfl rfl rfl rfl rfl (c4a (hs1 ‹_›) ‹_›) ?_|refine zhK (f := 136) 5 6 1 rfl rfl Tryz.call136 rfl rfl rfl rfl rfl rfl rfl rfl rfl rfl rfl rfl (c4b (hs1 ‹_›) ‹_›) ?_|refine zah (f := 137) rfl rfl Tryz.call137 rfl (c5 _) ?_|fail)
  · rename_i h1 h2 h3
    rw [L2 _ (g1 h2) h3]
    exact ⟨(), trivial, ⟨rfl, rfl, rfl, rfl, rfl, rfl, trivial⟩, ⟨rfl, rfl, rfl, rfl, trivial⟩, rfl, by rw [hX]; intro k hk; cases hk⟩
  · rename_i h1 h2 h3 h4
    rw [L1 _ (g1 h2) h1 h3, if_pos h4]
    exact ⟨(), trivial, ⟨rfl, rfl, rfl, rfl, rfl, rfl, trivial⟩, ⟨rfl, rfl, rfl, rfl, trivial⟩, rfl, by rw [hX]; intro k hk; cases hk⟩
  · rename_i h1 h2 h3 h4
    rw [L1 _ (g1 h2) h1 h3, if_neg h4]
    exact ⟨(), trivial, ⟨rfl, rfl, rfl, rfl, rfl, rfl, trivial⟩, ⟨rfl, rfl, rfl, rfl, trivial⟩, rfl, by rw [hX]; intro k hk; cases hk⟩
  · rename_i h1 h2 h3
    rw [L2 _ (g2 h2) h3]
    exact ⟨(), trivial, ⟨rfl, rfl, rfl, rfl, rfl, rfl, trivial⟩, ⟨rfl, rfl, rfl, rfl, trivial⟩, rfl, by rw [hX]; intro k hk; cases hk⟩
  · rename_i h1 h2 h3 h4
    exact absurd (.inr h4) h2
  · rename_i h1 h2 h3 h4
    rw [L1 _ (g2 h2) h1 h3, if_neg h4]
    exact ⟨(), trivial, ⟨rfl, rfl, rfl, rfl, rfl, rfl, trivial⟩, ⟨rfl, rfl, rfl, rfl, trivial⟩, rfl, by rw [hX]; intro k hk; cases hk⟩
  · rename_i h1
    rw [L3 h1]
    exact ⟨(), trivial, ⟨rfl, rfl, rfl, rfl, rfl, rfl, trivial⟩, ⟨rfl, rfl, rfl, rfl, trivial⟩, rfl, by rw [hX]; intro k hk; cases hk⟩
  clear c1 c2 c3 c4a c4b g1 g2 L1 L2 L3 hs1 hp1 hp2
  intro _ _
  have hx : -1099511627776 ≤ (exN powP s k).1 ∧ (exN powP s k).1 ≤ 1099511627776 := by
    have := hp (sgN s (k + 1))
    unfold exN
    split
    · dsimp only
      split <;> omega
    · dsimp only
      omega
  clear hp c5
  generalize exN powP s k = W at hR hx ⊢
  obtain ⟨x, m⟩ := W
  dsimp only at hR hx ⊢
  have c1 := zld (decide (sat s 0 45)) (w ++ f) (x - f.length) (by rw [List.length_append]; omega) (by omega) (by omega)
  generalize normF (decide (sat s 0 45)) (w ++ f) (x - f.length) = W at hR c1
  obtain ⟨⟨n1, d1, e1⟩, err⟩ := W
  dsimp only at hR c1
  repeat' (first |with_reducible (first |refine zag ?_|refine zaa ?_|refine zaf ?_|refine zad ?_|refine zaj ?_|refine zai ?_|refine zal ?_|refine zaD ?_)|refine zab rfl rfl True.intro ?_|((first |refine zat rfl ?_ ?_)<;>intro)|((first |refine zab rfl rfl ?_ ?_|refine zar rfl ?_ ?_);focus (first |omega|exact le_ rfl|((repeat' refine And.intro ?_ ?_)<;>omega)|((repeat' refine And.intro ?_ ?_)<;>first |rfl|exact Nat.le_refl _)))|with_reducible refine ⟨by kernel_rfl, ?_⟩|refine zaw rfl ?_|refine zah (f := 95) rfl rfl Tryz.call95 rfl c1 ?_|fail)
  · rename_i h
    rw [hR (), if_neg h]
    rfl
  · rename_i h
    rw [hR (), if_pos h]
    rfl

def pvS (p : Nat) (e : Int) : Value := .iface 83 (.agg #[.int .i64 p, .int .i64 e])
abbrev rdr (s : List UInt8) (i : Nat) : Ow := [(13, .var [.s s, .i .i64 i])]
def RdE (f : FuncId) (args : List D) (s : List UInt8) (i : Nat) (o : Sum (D × Nat) (Nat × Int)) : Prop :=
  match o with
  | .inl (d, n) => CtrO Tryz.prog f args (rdr s i) d (rdr s n)
  | .inr (p, e) => CtrP Tryz.prog f args (rdr s i) (pvS p e) [(13, .gone)]
section
variable {fr : Fr} {ow : Ow} {f : FuncId} {args : List D} {pv : Value}
def EndsR (rs : List ResultVar) (s : List UInt8) (o : Sum (D × Nat) (Nat × Int)) (e : Exit) (fr : Fr) (ow : Ow) : Prop :=
  match o with
  | .inl (d, n) => EndsM rs d (rdr s n) e fr ow
  | .inr (p, er) => EndsP (pvS p er) [(13, .gone)] e fr ow
theorem zcW {rs : List ResultVar} {d2 : D} {s : List UInt8} {o : Sum (D × Nat) (Nat × Int)} (h : resU B fr ow rs = some d2) (he : Stay (∃ d n, o = .inl (d, n) ∧ Weak d2 d ∧ look 13 ow = some (.var [.s s, .i .i64 (n : Nat)]))) : Rtn (EndsR rs s o) fr ow := by
  unfold Rtn
  obtain ⟨d, n, rfl, hw, hl⟩ := he.out
  exact ⟨d2, h, hw, hl, trivial⟩
theorem zbi {rs : List ResultVar} {s : List UInt8} {o : Sum (D × Nat) (Nat × Int)} (he : Stay (∃ p e, o = .inr (p, e) ∧ pv = pvS p e ∧ ∃ o2, look 13 ow = some o2)) : Pnc pv (EndsR rs s o) fr ow := by
  unfold Pnc
  obtain ⟨p, e, rfl, rfl, hl⟩ := he.out
  exact ⟨rfl, hl, trivial⟩
theorem zgc {fn : Func} {c : Code} {N : Nat} {rs : List ResultVar} {s : List UInt8} {i : Nat} {o : Sum (D × Nat) (Nat × Int)} (hf : Tryz.prog.funcs[f]? = some fn) (hb : fn.body = some c) (hN : fn.ntmps = N) (hrs : fn.results = ⟨rs⟩) (hlen : Nat.ble args.length N = true)
    (hd : ∀ d n, o = .inl (d, n) → d.okIn [13] = true) (h : ∀ X : Ctx, Lent X → X.ids = [13] → T Tryz.prog X N c (slots 0 args) (rdr s i) (EndsR rs s o)) : RdE f args s i o := by
  match o, hd, h with
  | .inl (d, n), hd, h => exact zaK hf hb hN hrs hlen rfl rfl (hd d n rfl) rfl h
  | .inr (p, e), hd, h => exact zeM hf hb hN hlen rfl rfl rfl h
end
theorem zbq (p : Nat) (e : Int) : CtrP Tryz.prog 50 [.i .i64 p, .i .i64 e] [] (pvS p e) [] := by
  refine zeM Tryz.func50 rfl Tryz.ntmps50 rfl rfl rfl rfl fun X hL hX => ?_
  repeat' (first |(refine zbE (id := 0) 4 ?_;dsimp only [splitOp])|refine zpj Tryz.underlying83 rfl rfl ?_|with_reducible (first |refine zaf ?_)|refine zab rfl rfl True.intro ?_|refine zrG rfl ?_|refine ziZ rfl trivial|fail)
theorem zpm : ∀ n : _root_.Fin 256, decide (0 ≤ Lib.indexByte [32, 9, 10, 13] (n.1 : Int).toNat.toUInt8) = blkB (UInt8.ofNat n.1) := by decide +kernel
theorem zrS (s : List UInt8) (j : Nat) : decide (0 ≤ Lib.indexByte [32, 9, 10, 13] (at' s j).toNat.toUInt8) = blkB (s.getD j 0) := by
  have h := zpm ⟨(s.getD j 0).toNat, (s.getD j 0).toNat_lt⟩
  rw [show UInt8.ofNat (s.getD j 0).toNat = s.getD j 0 by simp] at h
  exact h
theorem zkL {s : List UInt8} {i j : Nat} (_h1 : i ≤ j) (h2 : j ≤ skN s i) (h3 : j < s.length) (h4 : blkB (s.getD j 0) = true) : j + 1 ≤ skN s i := by
  rcases Nat.lt_or_ge j (skN s i) with h | h
  · exact h
  · have e : j = skN s i := by omega
    have := zoV (s := s) (i := i) (by omega)
    rw [← e, h4] at this
    cases this
theorem zgW {s : List UInt8} {i j : Nat} (h1 : i ≤ j) (h2 : j ≤ skN s i) (h3 : s.length ≤ j ∨ blkB (s.getD j 0) = false) (hi : i ≤ s.length) : skN s i = j := by
  have hle := (zbT hi).2
  rcases h3 with h3 | h3
  · omega
  · rcases Nat.lt_or_ge j (skN s i) with h | h
    · exfalso
      have key : ∀ (q : List UInt8) (k : Nat), k < (q.takeWhile blkB).length → blkB (q.getD k 0) = true := by
        intro q
        induction q with
        | nil => intro k hk; simp at hk
        | cons c q ih =>
          intro k hk
          rw [List.takeWhile_cons] at hk
          by_cases hc : blkB c = true
          · rw [if_pos hc] at hk
            cases k with
            | zero => exact hc
            | succ k => exact ih k (by simpa using hk)
          · rw [if_neg hc] at hk
            simp at hk
      have := key (s.drop i) (j - i) (by unfold skN at h; omega)
      rw [show (s.drop i).getD (j - i) 0 = s.getD j 0 by simp [List.getD_eq_getElem?_getD, show i + (j - i) = j by omega], h3] at this
      cases this
    · omega
set_option maxRecDepth 100000 in
set_option maxHeartbeats 1000000 in
theorem zir (s : List UInt8) (i : Nat) (hs : s.length ≤ 1048576) (hi : i ≤ s.length) : CtrO Tryz.prog 49 [.pv 13 0] (rdr s i) (.tu []) (rdr s (skN s i)) := by
  refine zaK Tryz.func49 rfl Tryz.ntmps49 Tryz.results49 rfl rfl rfl rfl rfl fun X hL hX => ?_
  repeat' (first |with_reducible (first |refine zae ?_)|fail)
  refine T.loop hL (fun _ : Nat => [(0, .pv 13 0)]) (fun j => rdr s j) (fun j => i ≤ j ∧ j ≤ skN s i) (fun j => s.length - j) i ⟨Nat.le_refl _, (zbT hi).1⟩
    ⟨⟨rfl, trivial⟩, ⟨rfl, trivial⟩, rfl, fun q hq => by rw [hX] at hq; simp at hq; simp [hq]⟩ ?_
  rintro j ⟨h1, h2⟩
  have h3 := (zbT hi).2
  by_cases hj : j < s.length
  · have c1 := zdV [32, 9, 10, 13] (at' s j)
    have hb := zrS s j
    cases hc : blkB (s.getD j 0) with
    | true =>
      rw [hc, decide_eq_true_eq] at hb
      have hm := zkL h1 h2 hj hc
      repeat' (first |refine zaM (f := 82) rfl rfl rfl rfl Tryz.call82 rfl c1 ?_|with_reducible (first |refine zag ?_|refine zaa ?_|refine zaf ?_|refine zad ?_|refine zai ?_|refine zae ?_|refine zaq ?_|refine zaD ?_)|refine zab rfl rfl True.intro ?_|refine zam rfl rfl rfl rfl True.intro ?_|((first |refine zac rfl ?_ ?_|refine zan rfl rfl ?_ ?_)<;>intro<;>try (first |(exfalso;omega)))|((first |refine zab rfl rfl ?_ ?_|refine zam rfl rfl rfl rfl ?_ ?_|refine zar rfl ?_ ?_);focus (first |omega|exact le_ rfl|((repeat' refine And.intro ?_ ?_)<;>omega)|((repeat' refine And.intro ?_ ?_)<;>first |rfl|exact Nat.le_refl _)))|with_reducible refine ⟨by kernel_rfl, ?_⟩|fail)
      all_goals exact ⟨j + 1, ⟨by omega, hm⟩, by omega, ⟨rfl, trivial⟩, ⟨congrArg (fun x => some (Own.var [.s s, .i .i64 x])) (by omega), trivial⟩, rfl, fun q hq => by rw [hX] at hq; simp at hq; simp [hq]⟩
    | false =>
      rw [hc, decide_eq_false_iff_not] at hb
      rw [zgW h1 h2 (.inr hc) hi]
      repeat' (first |refine zaM (f := 82) rfl rfl rfl rfl Tryz.call82 rfl c1 ?_|with_reducible (first |refine zag ?_|refine zaf ?_|refine zad ?_|refine zaz ?_|refine zaA ?_|refine zaD ?_)|refine zab rfl rfl True.intro ?_|refine zam rfl rfl rfl rfl True.intro ?_|((first |refine zac rfl ?_ ?_|refine zan rfl rfl ?_ ?_)<;>intro<;>try (first |(exfalso;omega)))|((first |refine zab rfl rfl ?_ ?_|refine zam rfl rfl rfl rfl ?_ ?_);focus (first |omega|exact le_ rfl|((repeat' refine And.intro ?_ ?_)<;>omega)))|refine zaJ rfl ?_|with_reducible refine ⟨by kernel_rfl, ?_⟩|refine zcc rfl rfl ⟨⟨rfl, trivial⟩⟩|fail)
  · rw [zgW h1 h2 (.inl (by omega)) hi]
    repeat' (first |with_reducible (first |refine zag ?_|refine zaf ?_|refine zad ?_|refine zaz ?_|refine zaA ?_|refine zaD ?_)|refine zab rfl rfl True.intro ?_|refine zau rfl rfl rfl ?_|refine zak rfl ?_|((first |refine zan rfl rfl ?_ ?_)<;>intro<;>try (first |(exfalso;omega)))|((first |refine zab rfl rfl ?_ ?_);focus (first |exact le_ rfl|((repeat' refine And.intro ?_ ?_)<;>omega)))|refine zaJ rfl ?_|with_reducible refine ⟨by kernel_rfl, ?_⟩|refine zcc rfl rfl ⟨⟨rfl, trivial⟩⟩|fail)
def peekD (s : List UInt8) : Sum Nat (Nat × Int) → Sum (D × Nat) (Nat × Int)
  | .inl j => .inl (.i .u8 (at' s j), j)
  | .inr e => .inr e
set_option maxRecDepth 100000 in
set_option maxHeartbeats 1000000 in
theorem zbU (s : List UInt8) (i : Nat) (hs : s.length ≤ 1048576) (hi : i ≤ s.length) : RdE 77 [.pv 13 0] s i (peekD s (jpeek s i)) := by
  have c1 := zir s i hs hi
  have hle := zbT hi
  unfold jpeek
  by_cases h : skN s i < s.length
  · rw [if_pos h]
    refine zaK Tryz.func77 rfl Tryz.ntmps77 Tryz.results77 rfl rfl rfl rfl rfl fun X hL hX => ?_
    repeat' (first |refine zav (f := 49) 13 rfl rfl Tryz.call49 rfl rfl rfl rfl rfl c1 ?_|with_reducible (first |refine zag ?_|refine zaa ?_|refine zaf ?_|refine zad ?_|refine zaj ?_|refine zai ?_|refine zaD ?_)|refine zab rfl rfl True.intro ?_|((first |refine zac rfl ?_ ?_)<;>intro<;>try (first |(exfalso;omega)))|((first |refine zab rfl rfl ?_ ?_);focus (first |omega|exact le_ rfl|((repeat' refine And.intro ?_ ?_)<;>omega)))|with_reducible refine ⟨by kernel_rfl, ?_⟩|refine zbe rfl rfl ⟨⟨rfl, trivial⟩⟩|fail)
  · rw [if_neg h]
    have c2 := zbq (skN s i) 2
    refine zeM Tryz.func77 rfl Tryz.ntmps77 rfl rfl rfl rfl fun X hL hX => ?_
    repeat' (first |(refine zbE (id := 3) 4 ?_;dsimp only [splitOp])|refine zav (f := 49) 13 rfl rfl Tryz.call49 rfl rfl rfl rfl rfl c1 ?_|refine zdi rfl Tryz.call50 rfl c2 ?_|with_reducible (first |refine zag ?_|refine zaa ?_|refine zaf ?_|refine zad ?_|refine zaD ?_)|refine zab rfl rfl True.intro ?_|((first |refine zac rfl ?_ ?_)<;>intro<;>try (first |(exfalso;omega)))|((first |refine zab rfl rfl ?_ ?_);focus (first |exact le_ rfl|((repeat' refine And.intro ?_ ?_)<;>omega)))|with_reducible refine ⟨by kernel_rfl, ?_⟩|refine zaX ?_|refine ziZ rfl ⟨⟨_, rfl⟩, trivial⟩|fail)
def litC (k : Int) (y : Bool) : List D := [.i .i64 k, .b y, .b false, .s [], .i .i64 0, .s [], .nilS, .nilS]
def litJ (k : Int) (y : Bool) : J := .mk k y false [] 0 [] [] []
theorem zbQ (k : Int) (y : Bool) : Weak (.ag (litC k y)) (.ag (jC (litJ k y))) := by
  unfold litJ jC
  refine .ag _ _ rfl fun j hj => ?_
  match j, hj with
  | 0, _ => exact .refl _
  | 1, _ => exact .refl _
  | 2, _ => exact .refl _
  | 3, _ => exact .refl _
  | 4, _ => exact .refl _
  | 5, _ => exact .refl _
  | 6, _ => exact .nil 8 _
  | 7, _ => exact .nil 1 _
def wordD (k : Int) (y : Bool) : JR → Sum (D × Nat) (Nat × Int)
  | .inl (_, n) => .inl (.ag (litC k y), n)
  | .inr e => .inr e
theorem zhn (s : List UInt8) (i : Nat) : List.drop (i : Int).toNat (List.take (s.length : Int).toNat s) = s.drop i := by
  rw [Int.toNat_natCast, Int.toNat_natCast, List.take_length]
theorem zhf (s p : List UInt8) : Ctr Tryz.prog 108 [.s s, .s p] (.b (Lib.hasPrefix s p)) := by
  intro w S vs hv hg hn hr
  have h0 := hr 0 (by simp)
  have h1 := hr 1 (by simp)
  rw [zgJ hn]
  generalize vs.getD 0 undef = v0 at *
  generalize vs.getD 1 undef = v1 at *
  cases h0
  cases h1
  refine (Tryz.strings_HasPrefix ⟨s.toArray⟩ ⟨p.toArray⟩ w).mono ?_
  rintro e w' ⟨rfl, rfl⟩
  exact ⟨_, S, rfl, .b _ _, zei _ S hv hg⟩
set_option maxRecDepth 100000 in
set_option maxHeartbeats 1000000 in
theorem zfp (s w : List UInt8) (i : Nat) (k : Int) (y : Bool) (hs : s.length ≤ 1048576) (hw : w.length ≤ 10) (hi : i ≤ s.length) : RdE 78 [.pv 13 0, .s w, .ag (litC k y)] s i (wordD k y (jword s i w (litJ k y))) := by
  have c1 : Ctr Tryz.prog 108 [.s (List.drop (i : Int).toNat (List.take (s.length : Int).toNat s)), .s w] (.b (Lib.hasPrefix (s.drop i) w)) := by
    rw [zhn]
    exact zhf _ _
  unfold jword
  cases h : Lib.hasPrefix (s.drop i) w with
  | true =>
    rw [h] at c1
    rw [if_pos rfl]
    refine zaK Tryz.func78 rfl Tryz.ntmps78 Tryz.results78 rfl rfl rfl rfl rfl fun X hL hX => ?_
    repeat' (first |refine zah (f := 108) rfl rfl Tryz.call108 rfl c1 ?_|with_reducible (first |refine zag ?_|refine zaa ?_|refine zaf ?_|refine zad ?_|refine zaj ?_|refine zai ?_|refine zaD ?_)|refine zab rfl rfl True.intro ?_|refine zak rfl ?_|((first |refine zab rfl rfl ?_ ?_|refine zao rfl rfl ?_ ?_|refine zar rfl ?_ ?_);focus (first |omega|exact le_ rfl|((repeat' refine And.intro ?_ ?_)<;>omega)|((repeat' refine And.intro ?_ ?_)<;>first |rfl|exact Nat.le_refl _)))|with_reducible refine ⟨by kernel_rfl, ?_⟩|refine zbe rfl rfl ⟨⟨?_, trivial⟩⟩|fail)
    all_goals exact congrArg (fun x => some (Own.var [.s s, .i .i64 x])) (by omega)
  | false =>
    rw [h] at c1
    rw [if_neg Bool.false_ne_true]
    have c2 := zbq i 3
    refine zeM Tryz.func78 rfl Tryz.ntmps78 rfl rfl rfl rfl fun X hL hX => ?_
    repeat' (first |(refine zbE (id := 2) 4 ?_;dsimp only [splitOp])|refine zah (f := 108) rfl rfl Tryz.call108 rfl c1 ?_|refine zdi rfl Tryz.call50 rfl c2 ?_|with_reducible (first |refine zag ?_|refine zaa ?_|refine zaf ?_|refine zad ?_|refine zaD ?_)|refine zab rfl rfl True.intro ?_|refine zas rfl ?_|((first |refine zab rfl rfl ?_ ?_|refine zao rfl rfl ?_ ?_);focus (first |omega|exact le_ rfl|((repeat' refine And.intro ?_ ?_)<;>omega)|((repeat' refine And.intro ?_ ?_)<;>first |rfl)))|with_reducible refine ⟨by kernel_rfl, ?_⟩|refine zaX ?_|refine ziZ rfl ⟨⟨_, rfl⟩, trivial⟩|fail)
def textD : Sum (List UInt8 × Nat) (Nat × Int) → Sum (D × Nat) (Nat × Int)
  | .inl (t, n) => .inl (.s t, n)
  | .inr e => .inr e
set_option maxRecDepth 100000 in
set_option maxHeartbeats 1000000 in
theorem ziE (s : List UInt8) (i : Nat) (hs : s.length ≤ 1048576) (_hi : i ≤ s.length) : RdE 79 [.pv 13 0] s i (textD (jtext s i)) := by
  have c1 := zrt s i hs
  have hn := @zff s i
  unfold jtext
  generalize unqF s i = R at *
  obtain ⟨t, n, e⟩ := R
  dsimp only at hn c1 ⊢
  by_cases h : e = 0
  · rw [if_pos h]
    have hn := hn h
    subst h
    obtain ⟨n', rfl⟩ : ∃ n' : Nat, n = n' := ⟨n.toNat, by omega⟩
    rw [Int.toNat_natCast]
    refine zaK Tryz.func79 rfl Tryz.ntmps79 Tryz.results79 rfl rfl rfl rfl rfl fun X hL hX => ?_
    repeat' (first |refine zah (f := 109) rfl rfl Tryz.call109 rfl c1 ?_|with_reducible (first |refine zag ?_|refine zaa ?_|refine zaf ?_|refine zad ?_|refine zaj ?_|refine zai ?_|refine zaD ?_)|refine zab rfl rfl True.intro ?_|refine zak rfl ?_|((first |refine zab rfl rfl ?_ ?_|refine zar rfl ?_ ?_);focus (first |exact le_ rfl|((repeat' refine And.intro ?_ ?_)<;>omega)|((repeat' refine And.intro ?_ ?_)<;>first |rfl|exact Nat.le_refl _)))|with_reducible refine ⟨by kernel_rfl, ?_⟩|refine zbe rfl rfl ⟨⟨rfl, trivial⟩⟩|fail)
  · rw [if_neg h]
    have c2 := zbq i e
    refine zeM Tryz.func79 rfl Tryz.ntmps79 rfl rfl rfl rfl fun X hL hX => ?_
    repeat' (first |(refine zbE (id := 3) 5 ?_;dsimp only [splitOp])|refine zah (f := 109) rfl rfl Tryz.call109 rfl c1 ?_|refine zdi rfl Tryz.call50 rfl c2 ?_|with_reducible (first |refine zag ?_|refine zaa ?_|refine zaf ?_|refine zad ?_|refine zaD ?_)|refine zab rfl rfl True.intro ?_|((first |refine zat rfl ?_ ?_)<;>intro<;>try (first |(exfalso;omega)))|((first |refine zab rfl rfl ?_ ?_);focus (first |exact le_ rfl|((repeat' refine And.intro ?_ ?_)<;>omega)))|with_reducible refine ⟨by kernel_rfl, ?_⟩|refine zaX ?_|refine ziZ rfl ⟨⟨_, rfl⟩, trivial⟩|fail)
theorem zod (n : Bool) (d : List UInt8) (e : Int) : Ctr Tryz.prog 63 [.ag [.b n, .s d, .i .i64 e]] (.ag [.i .i64 2, .b false, .b n, .s d, .i .i64 e, .s [], .nilS, .nilS]) := by
  refine zay Tryz.func63 rfl Tryz.ntmps63 Tryz.results63 rfl rfl fun X hL hX => ?_
  repeat' (first |with_reducible (first |refine zag ?_|refine zaa ?_|refine zaf ?_|refine zad ?_|refine zaj ?_)|refine zab rfl rfl True.intro ?_|((first |refine zab rfl rfl ?_ ?_|refine zao rfl rfl ?_ ?_|refine zar rfl ?_ ?_);focus (first |exact le_ rfl|((repeat' refine And.intro ?_ ?_)<;>omega)|((repeat' refine And.intro ?_ ?_)<;>first |rfl|exact Nat.le_refl _)))|refine zaw rfl ?_|fail)
  all_goals rfl
def numC (r : Bool × List UInt8 × Int) : List D := [.i .i64 2, .b false, .b r.1, .s r.2.1, .i .i64 r.2.2, .s [], .nilS, .nilS]
theorem zkp (r : Bool × List UInt8 × Int) : Weak (.ag (numC r)) (.ag (jC (jnumV r))) := by
  unfold jnumV jC
  refine .ag _ _ rfl fun j hj => ?_
  match j, hj with
  | 0, _ => exact .refl _
  | 1, _ => exact .refl _
  | 2, _ => exact .refl _
  | 3, _ => exact .refl _
  | 4, _ => exact .refl _
  | 5, _ => exact .refl _
  | 6, _ => exact .nil 8 _
  | 7, _ => exact .nil 1 _
def numD (s : List UInt8) (i : Nat) : JR → Sum (D × Nat) (Nat × Int)
  | .inl (_, n) => .inl (.ag (numC (parseG powP (s.drop i)).1), n)
  | .inr e => .inr e
set_option maxRecDepth 100000 in
set_option maxHeartbeats 1000000 in
theorem zjq (s : List UInt8) (i : Nat) (hs : s.length ≤ 1048576) (hi : i ≤ s.length) : RdE 81 [.pv 13 0] s i (numD s i (jnum s i)) := by
  have c1 : Ctr Tryz.prog 111 [.s (List.drop (i : Int).toNat (List.take (s.length : Int).toNat s))] (.tu [dcV (parseG powP (s.drop i)).1, .i .i64 (parseG powP (s.drop i)).2.1, .i .i64 (parseG powP (s.drop i)).2.2]) := by
    rw [zhn]
    exact znj _ (by rw [List.length_drop]; omega)
  have hn := zgY powP (s.drop i)
  rw [List.length_drop] at hn
  unfold jnum numD
  generalize parseG powP (s.drop i) = R at *
  obtain ⟨⟨ng, dg, ex⟩, n, e⟩ := R
  dsimp only at hn c1 ⊢
  have c3 := zod ng dg ex
  by_cases h : e = 0
  · rw [if_pos h]
    have hn := hn h
    subst h
    refine zaK Tryz.func81 rfl Tryz.ntmps81 Tryz.results81 rfl rfl rfl rfl rfl fun X hL hX => ?_
    repeat' (first |refine zah (f := 111) rfl rfl Tryz.call111 rfl c1 ?_|refine zah (f := 63) rfl rfl Tryz.call63 rfl c3 ?_|with_reducible (first |refine zag ?_|refine zaa ?_|refine zaf ?_|refine zad ?_|refine zaj ?_|refine zai ?_|refine zaD ?_)|refine zab rfl rfl True.intro ?_|refine zak rfl ?_|((first |refine zab rfl rfl ?_ ?_|refine zao rfl rfl ?_ ?_|refine zar rfl ?_ ?_);focus (first |omega|exact le_ rfl|((repeat' refine And.intro ?_ ?_)<;>omega)|((repeat' refine And.intro ?_ ?_)<;>first |rfl|exact Nat.le_refl _)))|with_reducible refine ⟨by kernel_rfl, ?_⟩|refine zbe rfl rfl ⟨⟨?_, trivial⟩⟩|fail)
    all_goals exact congrArg (fun x => some (Own.var [.s s, .i .i64 x])) (by omega)
  · rw [if_neg h]
    have c2 := zbq i e
    refine zeM Tryz.func81 rfl Tryz.ntmps81 rfl rfl rfl rfl fun X hL hX => ?_
    repeat' (first |(refine zbE (id := 3) 5 ?_;dsimp only [splitOp])|refine zah (f := 111) rfl rfl Tryz.call111 rfl c1 ?_|refine zdi rfl Tryz.call50 rfl c2 ?_|with_reducible (first |refine zag ?_|refine zaa ?_|refine zaf ?_|refine zad ?_|refine zaD ?_)|refine zab rfl rfl True.intro ?_|((first |refine zat rfl ?_ ?_)<;>intro<;>try (first |(exfalso;omega)))|((first |refine zab rfl rfl ?_ ?_|refine zao rfl rfl ?_ ?_|refine zar rfl ?_ ?_);focus (first |omega|exact le_ rfl|((repeat' refine And.intro ?_ ?_)<;>omega)|((repeat' refine And.intro ?_ ?_)<;>first |rfl|exact Nat.le_refl _)))|with_reducible refine ⟨by kernel_rfl, ?_⟩|refine zaX ?_|refine ziZ rfl ⟨⟨_, rfl⟩, trivial⟩|fail)

section
variable {X : Ctx} {n : Nat} {all rest : List Oper} {fr : Fr} {ow : Ow} {tr : List (List Nat × List Nat)} {K : Fr → Ow → List (List Nat × List Nat) → Prop}
variable {t : Nat} {op : Op} {ty : TypeId} {pos : String} {af : Array Edge} {cs : List D} {p : Prop} {rd : List Nat}
theorem StepAt.told {P : Program} {o : Oper} {F : Nat → D} {O : Nat → Option Own} {d d' : D} {wr : List (Nat × Own)} (h : StepAt P X n o F O d wr) (hd : ∀ S w r v, Rel S w r d v → Rel S w r d' v) : StepAt P X n o F O d' wr := fun a w K Q hr hK =>
  h a w K Q hr fun v w' hrep => hK v w' (by
    obtain ⟨S, r, h1, h2, h3, h4, h5, h6⟩ := hrep
    refine ⟨S, r, h1, h2, fun u => ?_, h4, h5, h6⟩
    have h7 := h3 u
    generalize o.dst = dst at h7
    cases dst with
    | none => exact h7
    | some t0 =>
      by_cases e : u = t0
      · simp only [updF, e, if_true] at h7 ⊢
        exact hd _ _ _ _ h7
      · simp only [updF, e, if_false] at h7 ⊢
        exact h7)
set_option maxRecDepth 100000 in
theorem zcV (hs : step B (ev fr) (fun k => look k ow) ⟨some t, op, ty, pos, af, none⟩ = some ⟨.ag cs, p, rd, []⟩) (hn : Nat.blt t n = true) (hp : p) (h : CT Tryz.prog X n all rest ((t, .ag (cs.map D.shut)) :: fr) ow (tr ++ [(rd, [])]) K) :
    CT Tryz.prog X n all (⟨some t, op, ty, pos, af, none⟩ :: rest) fr ow tr K := by
  rw [← zcD] at hs
  exact CT.cons (e := ⟨.ag (cs.map D.shut), rd, []⟩) (.plain rfl fun F' O' h1 h2 => (zbM (P := Tryz.prog) (X := X) (n := n) hs hp (show t < n from Nat.le_of_ble_eq_true hn) F' O' h1 h2).told fun S w r v hr => hr.shutA) (zaH ..) rfl h
end
theorem zeL (l : List (List UInt8)) (v : List UInt8) (gf : Nat → List D) (hg : gf 0 = [.s v]) : catF l.length (txF l) 1 gf = txF (l ++ [v]) := by
  funext j
  unfold catF txF
  by_cases h : j < l.length
  · rw [if_pos h]
    simp [List.getD_eq_getElem?_getD, List.getElem?_append_left h]
  · rw [if_neg h]
    by_cases h2 : j < l.length + 1
    · obtain rfl : j = l.length := by omega
      rw [if_pos h2, Nat.sub_self, hg]
      simp [List.getD_eq_getElem?_getD]
    · rw [if_neg h2]
      simp [List.getD_eq_getElem?_getD, List.getElem?_append_right (show l.length ≤ j by omega)]
      rw [List.getElem?_eq_none (show l.length ≤ j by omega), List.getElem?_eq_none (show [v].length ≤ j - l.length by simp; omega)]
theorem zqt : ∀ (l : List J) (x : J) (i : Nat), jF (l ++ [x]) i = if i = l.length then jC x else jF l i
  | [], x, 0 => by rw [List.nil_append, jF]; rfl
  | [], x, i + 1 => by
    rw [List.nil_append, jF, jF]
    rfl
  | y :: r, x, 0 => by
    rw [List.cons_append, jF, jF]
    rfl
  | y :: r, x, i + 1 => by
    rw [List.cons_append, jF, jF, zqt r x i, List.length_cons]
    by_cases h : i = r.length
    · rw [if_pos h, if_pos (by omega)]
    · rw [if_neg h, if_neg (by omega)]
theorem zdI (l : List J) (x : J) (gf : Nat → List D) (hg : gf 0 = jC x) : catF l.length (jF l) 1 gf = jF (l ++ [x]) := by
  funext j
  rw [zqt]
  unfold catF
  by_cases h : j < l.length
  · rw [if_pos h, if_neg (by omega)]
  · rw [if_neg h]
    by_cases h2 : j < l.length + 1
    · obtain rfl : j = l.length := by omega
      rw [if_pos h2, Nat.sub_self, hg, if_pos rfl]
    · rw [if_neg h2, if_neg (by omega)]
def idxJ (k : List UInt8) : List (List UInt8) → Int
  | [] => -1
  | x :: r => if x = k then 0 else if idxJ k r = -1 then -1 else idxJ k r + 1
theorem zhH {k : List UInt8} : ∀ {l : List (List UInt8)} {i : Nat}, (∀ j, j < i → ¬ l.getD j [] = k) → i < l.length → l.getD i [] = k → idxJ k l = i
  | [], _, _, h, _ => by simp at h
  | x :: r, 0, _, _, h => if_pos h
  | x :: r, i + 1, h1, h2, h3 => by
    have h0 : ¬ x = k := h1 0 (by omega)
    have ih := zhH (k := k) (l := r) (i := i) (fun j hj => by have := h1 (j + 1) (by omega); simpa using this) (by simpa using h2) (by simpa using h3)
    unfold idxJ
    rw [if_neg h0, ih, if_neg (by omega)]
    push_cast
    rfl
theorem zfO {k : List UInt8} : ∀ {l : List (List UInt8)}, (∀ j, j < l.length → ¬ l.getD j [] = k) → idxJ k l = -1
  | [], _ => rfl
  | x :: r, h1 => by
    have h0 : ¬ x = k := h1 0 (by simp)
    have ih := zfO (k := k) (l := r) (fun j hj => by have := h1 (j + 1) (by simpa using hj); simpa using this)
    unfold idxJ
    rw [if_neg h0, ih]
    rfl
theorem zdF {k : List UInt8} : ∀ {l : List (List UInt8)}, (0 ≤ idxJ k l ↔ k ∈ l) ∧ -1 ≤ idxJ k l ∧ idxJ k l < l.length
  | [] => by simp [idxJ]
  | x :: r => by
    have ih := zdF (k := k) (l := r)
    unfold idxJ
    by_cases h0 : x = k
    · rw [if_pos h0, List.length_cons]
      exact ⟨⟨fun _ => by simp [h0], fun _ => Int.le_refl _⟩, by omega, by omega⟩
    · rw [if_neg h0, List.length_cons]
      have hm : k ∈ x :: r ↔ k ∈ r := by
        rw [List.mem_cons]
        exact ⟨fun h => h.elim (fun e => absurd e.symm h0) id, .inr⟩
      rw [hm, ← ih.1]
      split
      · rename_i h
        exact ⟨⟨fun q => absurd q (by decide), fun q => by omega⟩, by omega, by omega⟩
      · exact ⟨⟨fun q => by omega, fun q => by omega⟩, by omega, by omega⟩
set_option maxRecDepth 100000 in
set_option maxHeartbeats 1000000 in
theorem zgs (l : List (List UInt8)) (k : List UInt8) (hl : l.length ≤ 4194304) : Ctr Tryz.prog 115 [.sl 1 l.length (txF l), .s k] (.i .i64 (idxJ k l)) := by
  refine zay Tryz.func115 rfl Tryz.ntmps115 Tryz.results115 rfl rfl fun X hL hX => ?_
  repeat' (first |with_reducible (first |refine zag ?_|refine zaa ?_|refine zaf ?_|refine zad ?_|refine zae ?_)|refine zab rfl rfl True.intro ?_|fail)
  refine T.loop hL (fun i : Nat => [(0, .sl 1 l.length (txF l)), (1, .s k), (7, .i .i64 l.length), (8, .i .i64 i)]) (fun _ => [])
    (fun i => i ≤ l.length ∧ ∀ j, j < i → ¬ l.getD j [] = k) (fun i => l.length - i) 0 ⟨Nat.zero_le _, fun j h => absurd h (Nat.not_lt_zero _)⟩
    ⟨⟨rfl, rfl, rfl, rfl, trivial⟩, trivial, rfl, by rw [hX]; simp⟩ ?_
  rintro i ⟨h1, h2⟩
  have hnat : (i : Int).toNat = i := Int.toNat_natCast i
  by_cases hil : i < l.length
  · by_cases hq : l.getD i [] = k
    · have hq' : k = l.getD (i : Int).toNat [] := by rw [hnat]; exact hq.symm
      have hq2 : l.getD (i : Int).toNat [] = k := hq'.symm
      rw [zhH h2 hil hq]
      repeat' (first |with_reducible (first |refine zag ?_|refine zaa ?_|refine zaf ?_|refine zad ?_|refine zaj ?_|refine zai ?_|refine zae ?_|refine zaq ?_|refine zal ?_|refine zap ?_)|refine zab rfl rfl True.intro ?_|((first |refine zac rfl ?_ ?_|refine zbx rfl ?_ ?_)<;>intro<;>try (first |(exfalso;omega)))|((first |refine zab rfl rfl ?_ ?_);focus (first |omega|exact le_ rfl|((repeat' refine And.intro ?_ ?_)<;>omega)))|refine zaw rfl ?_|fail)
      all_goals first
        | rfl
        | (exfalso; rename_i q; exact q hq')
        | (exfalso; rename_i q; exact q hq2)
    · have hq' : ¬ k = l.getD (i : Int).toNat [] := by rw [hnat]; exact fun e => hq e.symm
      have hq2 : ¬ l.getD (i : Int).toNat [] = k := fun e => hq' e.symm
      repeat' (first |with_reducible (first |refine zag ?_|refine zaa ?_|refine zaf ?_|refine zad ?_|refine zaj ?_|refine zai ?_|refine zae ?_|refine zaq ?_|refine zal ?_|refine zap ?_)|refine zab rfl rfl True.intro ?_|((first |refine zac rfl ?_ ?_|refine zbx rfl ?_ ?_)<;>intro<;>try (first |(exfalso;omega)))|((first |refine zab rfl rfl ?_ ?_);focus (first |omega|exact le_ rfl|((repeat' refine And.intro ?_ ?_)<;>omega)))|refine zaw rfl ?_|fail)
      all_goals first
        | (exfalso; rename_i q; exact hq' q)
        | (exfalso; rename_i q; exact hq2 q)
        | exact ⟨i + 1, ⟨by omega, fun j hj => by
            by_cases e : j = i
            · subst e; exact hq
            · exact h2 j (by omega)⟩, by omega, ⟨rfl, rfl, rfl, congrArg (D.i .i64) (by omega), trivial⟩, trivial, rfl, by rw [hX]; simp⟩
  · rw [zfO (fun j hj => h2 j (by omega))]
    repeat' (first |with_reducible (first |refine zag ?_|refine zaa ?_|refine zaf ?_|refine zad ?_|refine zaj ?_|refine zaz ?_|refine zaA ?_)|refine zab rfl rfl True.intro ?_|((first |refine zac rfl ?_ ?_)<;>intro<;>try (first |(exfalso;omega)))|refine zaJ rfl ?_|refine zaw rfl ?_|fail)
    all_goals rfl
theorem zie (l : List (List UInt8)) (k : List UInt8) (hl : l.length ≤ 4194304) : Ctr Tryz.prog 134 [.sl 1 l.length (txF l), .s k] (.b (decide (k ∈ l))) := by
  have c1 := zgs l k hl
  have e : decide (k ∈ l) = decide (0 ≤ idxJ k l) := by
    rw [decide_eq_decide]
    exact zdF.1.symm
  rw [e]
  refine zay Tryz.func134 rfl Tryz.ntmps134 Tryz.results134 rfl rfl fun X hL hX => ?_
  repeat' (first |refine zah (f := 115) rfl rfl Tryz.call115 rfl c1 ?_|with_reducible (first |refine zag ?_|refine zaa ?_|refine zaf ?_|refine zad ?_|refine zaj ?_)|refine zab rfl rfl True.intro ?_|refine zaw rfl ?_|fail)
  all_goals rfl
def keyD : Sum (List UInt8 × Nat) (Nat × Int) → Sum (D × Nat) (Nat × Int)
  | .inl (k, n) => .inl (.s k, n)
  | .inr e => .inr e
set_option maxRecDepth 100000 in
set_option maxHeartbeats 2000000 in
theorem zpa (s : List UInt8) (i : Nat) (l : List J) (ks : List (List UInt8)) (hs : s.length ≤ 1048576) (hi : i ≤ s.length) (hk : ks.length ≤ 4194304) :
    RdE 110 [.pv 13 0, .ag [.i .i64 5, .b false, .b false, .s [], .i .i64 0, .s [], .sl 8 l.length (jF l), .sl 1 ks.length (txF ks)]] s i (keyD (jkey s i ks)) := by
  refine zgc Tryz.func110 rfl Tryz.ntmps110 Tryz.results110 rfl (fun d n h => by
    unfold keyD at h
    split at h <;> cases h
    rfl) fun X hL hX => ?_
  have c1 := zbU s i hs hi
  have p1 := @zaW s i
  unfold jkey
  cases h1 : jpeek s i with
  | inr e =>
    obtain ⟨p, e⟩ := e
    rw [h1] at c1
    repeat' (first |(refine zbE (id := 1) 1 ?_;dsimp only [splitOp])|refine zbp 13 rfl Tryz.call77 rfl rfl rfl rfl c1 ?_|with_reducible (first |refine zag ?_|refine zaa ?_|refine zaf ?_|refine zad ?_)|refine zab rfl rfl True.intro ?_|((first |refine zao rfl rfl ?_ ?_);focus (first |((repeat' refine And.intro ?_ ?_)<;>omega)|((repeat' refine And.intro ?_ ?_)<;>first |rfl)))|refine zaX ?_|refine zbi ⟨_, _, rfl, rfl, _, rfl⟩|fail)
  | inl j =>
    rw [h1] at c1
    have p1 := p1 hi h1
    dsimp only
    by_cases hq : at' s j = 34
    · rw [if_neg (fun q => q hq)]
      have c2 := ziE s j hs (by omega)
      cases h2 : jtext s j with
      | inr e =>
        obtain ⟨p, e⟩ := e
        rw [h2] at c2
        repeat' (first |(refine zbE (id := 4) 1 ?_;dsimp only [splitOp])|refine zav (f := 77) 13 rfl rfl Tryz.call77 rfl rfl rfl rfl rfl c1 ?_|refine zbp 13 rfl Tryz.call79 rfl rfl rfl rfl c2 ?_|with_reducible (first |refine zag ?_|refine zaa ?_|refine zaf ?_|refine zad ?_|refine zai ?_)|refine zab rfl rfl True.intro ?_|((first |refine zat rfl ?_ ?_)<;>intro<;>try (first |(exfalso;omega)))|((first |refine zab rfl rfl ?_ ?_|refine zao rfl rfl ?_ ?_);focus (first |exact le_ rfl|((repeat' refine And.intro ?_ ?_)<;>omega)|((repeat' refine And.intro ?_ ?_)<;>first |rfl)))|refine zaX ?_|refine zbi ⟨_, _, rfl, rfl, _, rfl⟩|fail)
      | inl r =>
        obtain ⟨k, n⟩ := r
        rw [h2] at c2
        have p2 := zhr h2
        dsimp only
        have c3 := zie ks k hk
        have c4 := zbU s n hs p2.2
        by_cases hm : k ∈ ks
        · rw [if_pos hm]
          rw [decide_eq_true hm] at c3
          have c5 := zbq j 3
          repeat' (first |(refine zbE (id := 6) 1 ?_;dsimp only [splitOp])|refine zav (f := 77) 13 rfl rfl Tryz.call77 rfl rfl rfl rfl rfl c1 ?_|refine zav (f := 79) 13 rfl rfl Tryz.call79 rfl rfl rfl rfl rfl c2 ?_|refine zah (f := 134) rfl rfl Tryz.call134 rfl c3 ?_|refine zdi rfl Tryz.call50 rfl c5 ?_|with_reducible (first |refine zag ?_|refine zaa ?_|refine zaf ?_|refine zad ?_|refine zai ?_)|refine zab rfl rfl True.intro ?_|refine zas rfl ?_|((first |refine zat rfl ?_ ?_)<;>intro<;>try (first |(exfalso;omega)))|((first |refine zab rfl rfl ?_ ?_|refine zao rfl rfl ?_ ?_);focus (first |exact le_ rfl|((repeat' refine And.intro ?_ ?_)<;>omega)|((repeat' refine And.intro ?_ ?_)<;>first |rfl)))|refine zaX ?_|refine zbi ⟨_, _, rfl, rfl, _, rfl⟩|fail)
        · rw [if_neg hm]
          rw [decide_eq_false hm] at c3
          cases h3 : jpeek s n with
          | inr e =>
            obtain ⟨p, e⟩ := e
            rw [h3] at c4
            repeat' (first |(refine zbE (id := 7) 1 ?_;dsimp only [splitOp])|refine zav (f := 77) 13 rfl rfl Tryz.call77 rfl rfl rfl rfl rfl c1 ?_|refine zav (f := 79) 13 rfl rfl Tryz.call79 rfl rfl rfl rfl rfl c2 ?_|refine zah (f := 134) rfl rfl Tryz.call134 rfl c3 ?_|refine zbp 13 rfl Tryz.call77 rfl rfl rfl rfl c4 ?_|with_reducible (first |refine zag ?_|refine zaa ?_|refine zaf ?_|refine zad ?_|refine zai ?_)|refine zab rfl rfl True.intro ?_|refine zak rfl ?_|((first |refine zat rfl ?_ ?_)<;>intro<;>try (first |(exfalso;omega)))|((first |refine zab rfl rfl ?_ ?_|refine zao rfl rfl ?_ ?_);focus (first |exact le_ rfl|((repeat' refine And.intro ?_ ?_)<;>omega)|((repeat' refine And.intro ?_ ?_)<;>first |rfl)))|refine zaX ?_|refine zbi ⟨_, _, rfl, rfl, _, rfl⟩|fail)
          | inl m =>
            rw [h3] at c4
            have p3 := zaW p2.2 h3
            dsimp only
            by_cases h58 : at' s m = 58
            · rw [if_neg (fun q => q h58)]
              repeat' (first |refine zav (f := 77) 13 rfl rfl Tryz.call77 rfl rfl rfl rfl rfl c1 ?_|refine zav (f := 77) 13 rfl rfl Tryz.call77 rfl rfl rfl rfl rfl c4 ?_|refine zav (f := 79) 13 rfl rfl Tryz.call79 rfl rfl rfl rfl rfl c2 ?_|refine zah (f := 134) rfl rfl Tryz.call134 rfl c3 ?_|with_reducible (first |refine zag ?_|refine zaa ?_|refine zaf ?_|refine zad ?_|refine zaj ?_|refine zai ?_)|refine zab rfl rfl True.intro ?_|refine zak rfl ?_|((first |refine zat rfl ?_ ?_)<;>intro<;>try (first |(exfalso;omega)))|((first |refine zab rfl rfl ?_ ?_|refine zao rfl rfl ?_ ?_|refine zar rfl ?_ ?_);focus (first |omega|exact le_ rfl|((repeat' refine And.intro ?_ ?_)<;>omega)|((repeat' refine And.intro ?_ ?_)<;>first |rfl|exact Nat.le_refl _)))|refine zcW rfl ⟨_, _, rfl, .refl _, ?_⟩|fail)
              all_goals exact congrArg (fun x => some (Own.var [.s s, .i .i64 x])) (by omega)
            · rw [if_pos h58]
              have c5 := zbq m 3
              repeat' (first |(refine zbE (id := 8) 4 ?_;dsimp only [splitOp])|refine zav (f := 77) 13 rfl rfl Tryz.call77 rfl rfl rfl rfl rfl c1 ?_|refine zav (f := 77) 13 rfl rfl Tryz.call77 rfl rfl rfl rfl rfl c4 ?_|refine zav (f := 79) 13 rfl rfl Tryz.call79 rfl rfl rfl rfl rfl c2 ?_|refine zah (f := 134) rfl rfl Tryz.call134 rfl c3 ?_|refine zdi rfl Tryz.call50 rfl c5 ?_|with_reducible (first |refine zag ?_|refine zaa ?_|refine zaf ?_|refine zad ?_|refine zai ?_)|refine zab rfl rfl True.intro ?_|refine zak rfl ?_|((first |refine zat rfl ?_ ?_)<;>intro<;>try (first |(exfalso;omega)))|((first |refine zab rfl rfl ?_ ?_|refine zao rfl rfl ?_ ?_);focus (first |exact le_ rfl|((repeat' refine And.intro ?_ ?_)<;>omega)|((repeat' refine And.intro ?_ ?_)<;>first |rfl)))|refine zaX ?_|refine zbi ⟨_, _, rfl, rfl, _, rfl⟩|fail)
    · rw [if_pos hq]
      have c5 := zbq j 3
      repeat' (first |(refine zbE (id := 2) 4 ?_;dsimp only [splitOp])|refine zav (f := 77) 13 rfl rfl Tryz.call77 rfl rfl rfl rfl rfl c1 ?_|refine zdi rfl Tryz.call50 rfl c5 ?_|with_reducible (first |refine zag ?_|refine zaa ?_|refine zaf ?_|refine zad ?_)|refine zab rfl rfl True.intro ?_|((first |refine zat rfl ?_ ?_)<;>intro<;>try (first |(exfalso;omega)))|((first |refine zab rfl rfl ?_ ?_|refine zao rfl rfl ?_ ?_);focus (first |exact le_ rfl|((repeat' refine And.intro ?_ ?_)<;>omega)|((repeat' refine And.intro ?_ ?_)<;>first |rfl)))|refine zaX ?_|refine zbi ⟨_, _, rfl, rfl, _, rfl⟩|fail)
end Go.Proofs.YtcajofhafpkbdaaGreatDoor.Flow
