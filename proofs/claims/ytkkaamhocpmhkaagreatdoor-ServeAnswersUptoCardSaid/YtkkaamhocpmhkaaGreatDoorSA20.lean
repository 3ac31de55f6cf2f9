/- The texts K16, K17, K18, K19, K20, K33, one behind the other. -/
import Derived.Test.YtkkaamhocpmhkaaGreatDoorSA11
import Derived.Test.YtkkaamhocpmhkaaGreatDoorSA12
import Derived.Test.YtkkaamhocpmhkaaGreatDoorSA13
import Derived.Test.YtkkaamhocpmhkaaGreatDoorSA15
import Derived.Test.YtkkaamhocpmhkaaGreatDoorSA16
import Derived.Test.YtkkaamhocpmhkaaGreatDoorSA19
import Derived.Shelf.Spec.SlicesGrow
namespace Go.Proofs.YtkkaamhocpmhkaaGreatDoor.Flow
open Go
theorem zgr (n : Nat) (f : Nat → List D) : CtrO Tryz.prog 202 [.sl 1 n f] [] (.fn 240 [.pv 60 0]) [(60, .var [.sl 1 n f])] := by
  refine zbG (ids := []) (ids2 := [60]) Tryz.func202 rfl Tryz.ntmps202 Tryz.results202 rfl rfl rfl (fun _ h => by cases h) rfl rfl fun X hL hX => ?_
  repeat' (first |refine zeB 60 rfl rfl rfl rfl rfl ?_|with_reducible (first |refine zag ?_|refine zaa ?_|refine zaf ?_|refine zac ?_|refine zar ?_)|refine zab rfl rfl True.intro ?_|refine zev rfl rfl ⟨rfl, trivial⟩|fail)
abbrev idsM : List Nat := [50, 51, 2, 6, 8, 60, 70, 101]
abbrev ownM (b : List UInt8) (rec : Loop) (l : List Bool) : Ow := [(50, .ob (.loop rec)), (51, .ob (.deferred (some []))), (2, .var [.pv 70 0]), (6, .var [.rf codeLit 0]), (8, .var [.rf codeFiv 0]), (60, .var [.sl 1 b.length (bytesF b)]), (70, .var [.ah 101 1 (lenB l.length), .i .i64 ((l.length : Nat) : Int)]), (101, .arr 5 1 (lenB l.length) (bitF l))]
section
variable {lp : Nat} {Hx : Cells → World → Rho → Prop}
set_option maxRecDepth 100000 in
set_option maxHeartbeats 8000000 in
theorem iterM (b : List UInt8) (hb : b.length ≤ 1000000) (hst : Stab Hx idsM) (rec : Loop) (l0 : List Bool)
    (hY : ∀ at0 (k : List Bool), at0 < b.length → k.length ≤ l0.length + 40 * at0 → YC Tryz.prog lp Hx [.ag (mtD (tokAt b at0))] (ownM b rec k) true (ownM b rec (k ++ tokB (tokAt b at0)))) :
    CtrH Tryz.prog 240 Hx [.v (.func (.yield lp) #[] #[]), .pv 60 0] (ownM b rec l0) (.tu []) (ownM b rec (l0 ++ flatB (toks b 0))) := by
  refine zkc (ids := idsM) Tryz.func240 rfl Tryz.ntmps240 Tryz.results240 rfl rfl rfl rfl rfl fun X hL hX hdf hx => ?_
  repeat' (first |with_reducible (first |refine zag ?_|refine zaa ?_|refine zaf ?_|refine zac ?_|refine zae ?_)|refine zab rfl rfl True.intro ?_|fail)
  refine T.loop hL (fun x : Nat × List Bool => [(0, .v (.func (.yield lp) #[] #[])), (1, .pv 60 0), (3, .i .i64 x.1)]) (fun x => ownM b rec x.2)
    (fun x => x.1 ≤ b.length ∧ x.2.length ≤ l0.length + 40 * x.1 ∧ l0 ++ flatB (toks b 0) = x.2 ++ flatB (toks b x.1)) (fun x => b.length - x.1) (0, l0) ⟨Nat.zero_le _, Nat.le_refl _, rfl⟩
    ⟨⟨rfl, rfl, rfl, trivial⟩, ⟨rfl, rfl, rfl, rfl, rfl, rfl, rfl, ⟨_, _, rfl, rfl, fun k hk => .inl rfl⟩, trivial⟩, rfl, fun q hq => by rw [hX] at hq; exact hq⟩ ?_
  rintro ⟨i, k⟩ ⟨g1, g2, g3⟩
  try dsimp only at g1 g2 g3 ⊢
  have hnat : (i : Int).toNat = i := Int.toNat_natCast i
  by_cases hi : i < b.length
  rotate_left
  · have hi' : ¬ (i : Int) < (b.length : Int) := by omega
    rw [ziX hi] at g3
    rw [g3]
    clear hY
    repeat' (first |with_reducible (first |refine zag ?_|refine zaa ?_|refine zaf ?_|refine zac ?_|refine zan ?_|refine zao ?_)|refine zab rfl rfl True.intro ?_|((first |refine zad rfl ?_ ?_)<;>intro<;>try (first |(exfalso;omega)))|((first |refine zab rfl rfl ?_ ?_);focus (first |exact le_ rfl|((repeat' refine And.intro ?_ ?_)<;>omega)))|refine zat rfl ?_|refine zls rfl rfl ⟨rfl, rfl, rfl, rfl, rfl, rfl, rfl, ⟨_, _, rfl, rfl, fun k hk => .inl rfl⟩, trivial⟩|fail)
    all_goals trace_state
  have hi' : (i : Int) < (b.length : Int) := by omega
  have hYi := hY i k hi g2
  have cF := zkf b i hb g1
  obtain ⟨t1, t2⟩ := zcB hi
  have t3 := zdc t1
  rw [zhM hi] at g3
  have hkl : (k ++ tokB (tokAt b i)).length ≤ l0.length + 40 * (i + max (tokAt b i).1 1) := by
    rw [List.length_append]
    omega
  have hmx : ((i : Nat) : Int) + max (((tokAt b i).1 : Nat) : Int) 1 = ((i + max (tokAt b i).1 1 : Nat) : Int) := by omega
  have htk : tokAt b i = if (findB b i).1 = 0 then (0, (b.getD i 0).toNat) else findB b i := rfl
  generalize hk2 : k ++ tokB (tokAt b i) = k2 at *
  clear hk2 hY
  generalize findB b i = p at *
  obtain ⟨p1, p2⟩ := p
  dsimp only at htk
  by_cases q : p1 = 0
  · rw [if_pos q] at htk
    have q' : (p1 : Int) = 0 := by omega
    rw [htk] at hYi hmx hkl g3 t2
    clear htk t1 t3
    rw [← hnat] at hYi
    dsimp only at hmx hkl g3 t2
    subst q
    have hby := UInt8.toNat_lt (b.getD (i : Int).toNat 0)
    have hw : IntKind.i64.wrap (((b.getD (i : Int).toNat 0).toNat : Nat) : Int) = (((b.getD (i : Int).toNat 0).toNat : Nat) : Int) := by rw [wi6_]; omega
    replace hYi : YC Tryz.prog lp Hx [.ag [.i .i64 ((0 : Nat) : Int), .i .i64 (IntKind.i64.wrap (((b.getD (i : Int).toNat 0).toNat : Nat) : Int))]] (ownM b rec k) true (ownM b rec k2) := by rw [hw]; exact hYi
    repeat' (first |refine zaj (f := 241) rfl rfl Tryz.call241 rfl cF ?_|(refine T.regionY (id := 5) hx hst 2 ?_;dsimp only [splitOp3])|refine zgs (ownM b rec k) (ownM b rec k2) idsM true rfl rfl ⟨rfl, rfl, rfl, rfl, rfl, rfl, rfl, rfl, trivial⟩ rfl rfl (by decide) hst rfl rfl rfl hYi ?_|with_reducible (first |refine zag ?_|refine zaa ?_|refine zaf ?_|refine zac ?_|refine zah ?_|refine zae ?_|refine zai ?_)|refine zab rfl rfl True.intro ?_|refine zas rfl ?_|refine zak rfl ?_|((first |refine zad rfl ?_ ?_)<;>intro<;>try (first |(exfalso;omega)))|((first |refine zab rfl rfl ?_ ?_|refine zaw rfl rfl ?_ ?_|refine zax rfl ?_ ?_);focus (first |omega|exact le_ rfl|((repeat first |rw [wi6_]);(repeat' refine And.intro ?_ ?_)<;>omega)|((repeat' refine And.intro ?_ ?_)<;>first |rfl|exact Nat.le_refl _)))|fail)
    all_goals first
      | exact ⟨(i + max 0 1, k2), ⟨t2, hkl, g3⟩, by dsimp only; omega, ⟨rfl, rfl, congrArg (D.i .i64) hmx, trivial⟩, ⟨rfl, rfl, rfl, rfl, rfl, rfl, rfl, ⟨_, _, rfl, rfl, fun k hk => .inl rfl⟩, trivial⟩, rfl, fun q hq => by rw [hX] at hq; exact hq⟩
      | trace_state
  · rw [if_neg q] at htk
    have q' : ¬ (p1 : Int) = 0 := by omega
    rw [htk] at hYi hmx hkl g3 t2
    clear htk t1 t3
    dsimp only at hmx hkl g3 t2
    repeat' (first |refine zaj (f := 241) rfl rfl Tryz.call241 rfl cF ?_|(refine T.regionY (id := 5) hx hst 2 ?_;dsimp only [splitOp3])|refine zgs (ownM b rec k) (ownM b rec k2) idsM true rfl rfl ⟨rfl, rfl, rfl, rfl, rfl, rfl, rfl, rfl, trivial⟩ rfl rfl (by decide) hst rfl rfl rfl hYi ?_|with_reducible (first |refine zag ?_|refine zaa ?_|refine zaf ?_|refine zac ?_|refine zah ?_|refine zae ?_|refine zai ?_)|refine zab rfl rfl True.intro ?_|refine zak rfl ?_|((first |refine zad rfl ?_ ?_)<;>intro<;>try (first |(exfalso;omega)))|((first |refine zab rfl rfl ?_ ?_|refine zaw rfl rfl ?_ ?_|refine zax rfl ?_ ?_);focus (first |omega|exact le_ rfl|((repeat' refine And.intro ?_ ?_)<;>omega)|((repeat' refine And.intro ?_ ?_)<;>first |rfl|exact Nat.le_refl _)))|fail)
    all_goals first
      | exact ⟨(i + max p1 1, k2), ⟨t2, hkl, g3⟩, by dsimp only; omega, ⟨rfl, rfl, congrArg (D.i .i64) hmx, trivial⟩, ⟨rfl, rfl, rfl, rfl, rfl, rfl, rfl, ⟨_, _, rfl, rfl, fun k hk => .inl rfl⟩, trivial⟩, rfl, fun q hq => by rw [hX] at hq; exact hq⟩
      | trace_state
end

theorem zkl : Weak (.sl 1 (30 + 2) (catF 30 (natF fivN) 2 (chunk 1 [.i .i64 5, .i .i64 5]))) (.sl 1 32 (natF fivN)) := by
  have e : ∀ k, k < 32 → catF 30 (natF fivN) 2 (chunk 1 [.i .i64 5, .i .i64 5]) k = natF fivN k := fun k hk => by
    unfold catF
    by_cases h : k < 30
    · rw [if_pos h]
    · rw [if_neg h, if_pos (by omega)]
      have : k = 30 ∨ k = 31 := by omega
      rcases this with rfl | rfl <;> rfl
  exact .sl _ _ _ _ (fun k hk => by rw [e k hk]; exact ⟨rfl, rfl⟩) fun k j hk _ => by
    rw [e k hk]
    exact .refl _
abbrev wOl (l : List Bool) : Ow := [(70, .var [.ah 101 1 (lenB l.length), .i .i64 ((l.length : Nat) : Int)]), (101, .arr 5 1 (lenB l.length) (bitF l))]
theorem zba (l : List Bool) : (wOl l).all (fun x => x.2.okIn [70, 101]) = true := rfl
set_option maxRecDepth 100000 in
set_option maxHeartbeats 8000000 in
theorem zhx (b : List UInt8) (hb : b.length ≤ 1000000) : CtrO Tryz.prog 151 [.pv 70 0, .sl 1 b.length (bytesF b)] (wO []) (.tu []) (wO (bitsOf b)) := by
  have cF := zkh
  have cL := zhS
  have cV := zhy.weak2 zkl (.refl _)
  have cB := zdx [] 3 3 (by decide) (by decide) (by decide)
  have cM := zgr b.length (bytesF b)
  unfold wO at cB ⊢
  refine ziI (ids := [70, 101]) Tryz.func151 rfl Tryz.ntmps151 rfl rfl fun X hL hX hdf => ?_
  repeat' (first |refine zgp (x := .region _ _ _) ?_|refine TD.seqR ?_|refine TD.blockR ?_|refine zaS (f := 200) [] [(111, .row 3 1 288), (112, .row 3 1 30)] [] [111, 112] rfl rfl (by decide) (fun _ h => by cases h) (fun k h _ => by rcases List.mem_cons.1 h with rfl|h;exact rfl;rw [List.mem_singleton.1 h];rfl) rfl rfl Tryz.call200 trivial rfl rfl rfl rfl cF ?_|refine zaj (f := 201) rfl rfl Tryz.call201 rfl cL ?_|refine zaj (f := 201) rfl rfl Tryz.call201 rfl cV ?_|refine zaS (f := 198) (wOl []) (wOl ([] ++ lowB 3 3)) [70, 101] [70, 101] rfl rfl (by decide) (fun _ h => h) (fun _ h h2 => absurd h h2) rfl rfl Tryz.call198 ⟨rfl, rfl, trivial⟩ rfl (zba _) (zba _) rfl cB ?_|refine zby (f := 202) [] [(60, .var [.sl 1 b.length (bytesF b)])] [] [60] rfl rfl (by decide) (fun _ h => by cases h) (fun k h _ => by rw [List.mem_singleton.1 h];rfl) rfl rfl Tryz.call202 trivial rfl rfl rfl rfl cM ?_|with_reducible (first |refine zaa ?_|refine zaf ?_|refine zac ?_)|refine zab rfl rfl True.intro ?_|((first |refine zab rfl rfl ?_ ?_|refine zaw rfl rfl ?_ ?_|refine zax rfl ?_ ?_);focus (first |exact le_ rfl|((repeat' refine And.intro ?_ ?_)<;>omega)|((repeat' refine And.intro ?_ ?_)<;>first |omega|rfl|exact Nat.le_refl _)))|fail)
  refine TD.rangeFunc hL hdf [(2, .pv 2 0), (6, .pv 6 0), (8, .pv 8 0), (33, .fn 240 [.pv 60 0])]
    [(2, .var [.pv 70 0]), (6, .var [.rf codeLit 0]), (8, .var [.rf codeFiv 0]), (60, .var [.sl 1 b.length (bytesF b)]), (70, .var [.ah 101 1 (lenB (lowB 3 3).length), .i .i64 (((lowB 3 3).length : Nat) : Int)]), (101, .arr 5 1 (lenB (lowB 3 3).length) (bitF (lowB 3 3)))]
    [(2, .var [.pv 70 0]), (6, .var [.rf codeLit 0]), (8, .var [.rf codeFiv 0]), (60, .var [.sl 1 b.length (bytesF b)]), (70, .var [.ah 101 1 (lenB (lowB 3 3 ++ flatB (toks b 0)).length), .i .i64 (((lowB 3 3 ++ flatB (toks b 0)).length : Nat) : Int)]), (101, .arr 5 1 (lenB (lowB 3 3 ++ flatB (toks b 0)).length) (bitF (lowB 3 3 ++ flatB (toks b 0))))]
    [2, 6, 8, 60, 70, 101]
    ⟨⟨rfl, rfl, rfl, rfl, trivial⟩, ⟨rfl, rfl, rfl, rfl, rfl, ⟨_, _, rfl, rfl, fun k hk => .inl rfl⟩, trivial⟩, rfl, fun q hq => by rw [hX] at hq; simp at hq ⊢; omega⟩ rfl rfl 50 51 (by decide) (g := 240) (caps := [.pv 60 0]) rfl Tryz.call240 rfl rfl rfl rfl none ?_ ?_
  · intro fn tmps D l htm
    refine iterM b hb (Hl.stab (by decide) rfl) _ (lowB 3 3) fun at0 k hat hk => ?_
    obtain ⟨t1, t2⟩ := zcB hat
    have t3 := zdc t1
    have hkb : k.length ≤ 900000000 := by
      rw [zbh] at hk
      omega
    refine YC.of_T2 (kR := 50) (N := 78) none [34] rfl rfl rfl rfl rfl (by decide) htm rfl rfl rfl rfl fun X hL hX hdf => ?_
    clear cF cL cV cB cM
    generalize tokAt b at0 = p at *
    obtain ⟨p1, p2⟩ := p
    dsimp only [recOf, setFr]
    by_cases q : p1 = 0
    · have q' : (p1 : Int) = 0 := by omega
      have hp2 : p2 < 288 := by
        rcases t1 with h | h
        · have := h.2
          dsimp only at this
          omega
        · have := h.1
          dsimp only at this
          omega
      have cW := zbX litN cdLit 288 restLit p2 k hp2 (by decide) (by have := zcG p2; omega) (by have := zcG p2; omega) (by have := zhd hp2; omega) hkb rfl
      have e : tokB (p1, p2) = litB p2 := if_pos q
      rw [e]
      replace cW : CtrO Tryz.prog 203 [.rf codeLit 0, .pv 70 0, .i .i64 ((p2 : Nat) : Int)] (wOl k) (.i .i64 0) (wOl (k ++ litB p2)) := cW
      clear e t3
      repeat' (first |refine And.intro (a := look _ _ = _) rfl ?_|refine zaS (f := 203) (wOl k) (wOl (k ++ litB p2)) [70, 101] [70, 101] rfl rfl (by decide) (fun _ h => h) (fun _ h h2 => absurd h h2) rfl rfl Tryz.call203 ⟨rfl, rfl, trivial⟩ rfl (zba _) (zba _) rfl cW ?_|with_reducible (first |refine zag ?_|refine zaa ?_|refine zaf ?_|refine zac ?_|refine zan ?_|refine zae ?_|refine zao ?_)|refine zab rfl rfl True.intro ?_|((first |refine zad rfl ?_ ?_)<;>intro<;>try (first |(exfalso;omega)))|((first |refine zab rfl rfl ?_ ?_|refine zaw rfl rfl ?_ ?_|refine zax rfl ?_ ?_);focus (first |exact le_ rfl|((repeat' refine And.intro ?_ ?_)<;>omega)|((repeat' refine And.intro ?_ ?_)<;>first |rfl|exact Nat.le_refl _)))|refine zat rfl ?_|refine zjX rfl ⟨rfl, rfl, rfl, rfl, rfl, rfl, rfl, ⟨_, _, rfl, rfl, fun k hk => .inl rfl⟩, trivial⟩|fail)
      all_goals trace_state
    · have q' : ¬ (p1 : Int) = 0 := by omega
      obtain ⟨u1, u2, u3, u4⟩ : 3 ≤ p1 ∧ p1 ≤ 258 ∧ 1 ≤ p2 ∧ p2 ≤ 256 := by
        rcases t1 with h | h
        · exact absurd h.1 q
        · exact h
      obtain ⟨a1, a2, a3, a4⟩ := zgD p1 (by omega) u1
      obtain ⟨b1, b2, b3⟩ := zgt p2 (by omega) u3
      have cS := zkx p1 u1 u2
      have cR := zkK p2 u3 (by omega)
      have e : k ++ tokB (p1, p2) = (((k ++ litB (symF p1).1) ++ lowB (symF p1).2.1 (symF p1).2.2) ++ fivB (farF p2).1) ++ lowB (farF p2).2.1 (farF p2).2.2 := by
        rw [show tokB (p1, p2) = litB (symF p1).1 ++ lowB (symF p1).2.1 (symF p1).2.2 ++ fivB (farF p2).1 ++ lowB (farF p2).2.1 (farF p2).2.2 from if_neg q]
        simp only [List.append_assoc]
      rw [e]
      clear e t3 t1
      generalize symF p1 = sy at *
      obtain ⟨s, x, n⟩ := sy
      generalize farF p2 = fa at *
      obtain ⟨s2, x2, n2⟩ := fa
      dsimp only at a1 a2 a3 a4 b1 b2 b3 ⊢
      unfold tD at cS cR
      dsimp only at cS cR
      have w1 : IntKind.u32.wrap ((x : Nat) : Int) = ((x : Nat) : Int) := by rw [IntKind.wrap_u32]; omega
      have w2 : IntKind.u32.wrap ((x2 : Nat) : Int) = ((x2 : Nat) : Int) := by rw [IntKind.wrap_u32]; omega
      have l1 := zbE s
      have l2 := zda s2
      have c1 := zbX litN cdLit 288 restLit s k (by omega) (by decide) (by have := zcG s; omega) (by have := zcG s; omega) (by have := zhd (show s < 288 by omega); omega) hkb rfl
      replace c1 : CtrO Tryz.prog 203 [.rf codeLit 0, .pv 70 0, .i .i64 ((s : Nat) : Int)] (wOl k) (.i .i64 0) (wOl (k ++ litB s)) := c1
      have hkb' : k.length ≤ 800000000 := by
        rw [zbh] at hk
        omega
      generalize hk1 : k ++ litB s = k1 at *
      have n1 : k1.length ≤ 800000100 := by rw [← hk1, List.length_append]; omega
      clear hk1 l1
      have c2 := zdx k1 x n (by omega) (by omega) (by omega)
      rw [← w1] at c2
      replace c2 : CtrO Tryz.prog 198 [.pv 70 0, .i .u32 (IntKind.u32.wrap ((x : Nat) : Int)), .i .i64 ((n : Nat) : Int)] (wOl k1) (.i .i64 0) (wOl (k1 ++ lowB x n)) := c2
      generalize hk2 : k1 ++ lowB x n = k2 at *
      have n2' : k2.length ≤ 800000200 := by rw [← hk2, List.length_append, zbh]; omega
      clear hk2
      have c3 := zbX fivN cdFiv 32 restFiv s2 k2 (by omega) (by decide) (show 1 ≤ 5 by decide) (show 5 ≤ 15 by decide) (by show s2 < _; omega) (by omega) rfl
      replace c3 : CtrO Tryz.prog 203 [.rf codeFiv 0, .pv 70 0, .i .i64 ((s2 : Nat) : Int)] (wOl k2) (.i .i64 0) (wOl (k2 ++ fivB s2)) := c3
      generalize hk3 : k2 ++ fivB s2 = k3 at *
      have n3 : k3.length ≤ 800000300 := by rw [← hk3, List.length_append]; omega
      clear hk3 l2
      have c4 := zdx k3 x2 n2 (by omega) (by omega) (by omega)
      rw [← w2] at c4
      replace c4 : CtrO Tryz.prog 198 [.pv 70 0, .i .u32 (IntKind.u32.wrap ((x2 : Nat) : Int)), .i .i64 ((n2 : Nat) : Int)] (wOl k3) (.i .i64 0) (wOl (k3 ++ lowB x2 n2)) := c4
      generalize hk4 : k3 ++ lowB x2 n2 = k4 at *
      clear hk4 w1 w2 n1 n2' n3
      repeat' (first |refine And.intro (a := look _ _ = _) rfl ?_|refine zaj (f := 204) rfl rfl Tryz.call204 rfl cS ?_|refine zaj (f := 205) rfl rfl Tryz.call205 rfl cR ?_|refine zaS (f := 203) (wOl k) (wOl k1) [70, 101] [70, 101] rfl rfl (by decide) (fun _ h => h) (fun _ h h2 => absurd h h2) rfl rfl Tryz.call203 ⟨rfl, rfl, trivial⟩ rfl (zba _) (zba _) rfl c1 ?_|refine zaS (f := 198) (wOl k1) (wOl k2) [70, 101] [70, 101] rfl rfl (by decide) (fun _ h => h) (fun _ h h2 => absurd h h2) rfl rfl Tryz.call198 ⟨rfl, rfl, trivial⟩ rfl (zba _) (zba _) rfl c2 ?_|refine zaS (f := 203) (wOl k2) (wOl k3) [70, 101] [70, 101] rfl rfl (by decide) (fun _ h => h) (fun _ h h2 => absurd h h2) rfl rfl Tryz.call203 ⟨rfl, rfl, trivial⟩ rfl (zba _) (zba _) rfl c3 ?_|refine zaS (f := 198) (wOl k3) (wOl k4) [70, 101] [70, 101] rfl rfl (by decide) (fun _ h => h) (fun _ h h2 => absurd h h2) rfl rfl Tryz.call198 ⟨rfl, rfl, trivial⟩ rfl (zba _) (zba _) rfl c4 ?_|with_reducible (first |refine zag ?_|refine zaa ?_|refine zaf ?_|refine zac ?_|refine zah ?_|refine zae ?_|refine zai ?_)|refine zab rfl rfl True.intro ?_|((first |refine zad rfl ?_ ?_)<;>intro<;>try (first |(exfalso;omega)))|((first |refine zab rfl rfl ?_ ?_|refine zaw rfl rfl ?_ ?_|refine zax rfl ?_ ?_);focus (first |exact le_ rfl|((repeat' refine And.intro ?_ ?_)<;>omega)|((repeat' refine And.intro ?_ ?_)<;>first |rfl|exact Nat.le_refl _)))|refine zjX rfl ⟨rfl, rfl, rfl, rfl, rfl, rfl, rfl, ⟨_, _, rfl, rfl, fun k hk => .inl rfl⟩, trivial⟩|fail)
      all_goals trace_state
  · intro X1 D rec rec2 hm
    refine zet ?_
    have hfl : (flatB (toks b 0)).length ≤ 40 * b.length := zdn b (b.length + 1) 0
    have cE := zbX litN cdLit 288 restLit 256 (lowB 3 3 ++ flatB (toks b 0)) (by decide) (by decide) (by decide) (by decide) (by decide) (by rw [List.length_append, zbh]; omega) rfl
    replace cE : CtrO Tryz.prog 203 [.rf codeLit 0, .pv 70 0, .i .i64 256] (wOl (lowB 3 3 ++ flatB (toks b 0))) (.i .i64 0) (wOl (bitsOf b)) := cE
    clear cF cL cV cB cM hfl
    generalize bitsOf b = z at *
    generalize lowB 3 3 ++ flatB (toks b 0) = k at *
    unfold loopOw
    repeat' (first |refine ziq ?_|refine zaS (f := 203) (wOl k) (wOl z) [70, 101] [70, 101] rfl rfl (by decide) (fun _ h => h) (fun _ h h2 => absurd h h2) rfl rfl Tryz.call203 ⟨rfl, rfl, trivial⟩ rfl (zba _) (zba _) rfl cE ?_|with_reducible (first |refine zaa ?_|refine zaf ?_)|((first |refine zab rfl rfl ?_ ?_);focus (first |exact le_ rfl|((repeat' refine And.intro ?_ ?_)<;>omega)))|refine n_raw ⟨?_⟩|fail)
    all_goals first
      | exact fun a w hr => zdH hL hm hr rfl Tryz.results151 rfl (.refl _) rfl rfl (zba z) (fun q hq => by rw [hX] at hq; exact hq) ⟨rfl, ⟨_, _, rfl, rfl, fun k hk => .inl rfl⟩, trivial⟩
      | trace_state

theorem zef (l : List Bool) : bitF l = bytesF (packB l) := by
  funext k
  unfold bitF bytesF packB
  by_cases h : k < lenB l.length
  · have h2 := zde l k
    rw [List.getD_eq_getElem?_getD, List.getElem?_map, List.getElem?_range h]
    simp only [Option.map_some, Option.getD_some]
    rw [UInt8.toNat_ofNat', Nat.mod_eq_of_lt h2]
  · have h2 : l.length ≤ 8 * k := by
      unfold lenB at h
      omega
    rw [zbv h2, List.getD_eq_getElem?_getD, List.getElem?_eq_none (by rw [List.length_map, List.length_range]; omega)]
    rfl
def packD (b : List UInt8) : List UInt8 := packB (bitsOf b)
theorem zds (b : List UInt8) : (packD b).length ≤ 5 * b.length + 2 := by
  unfold packD
  rw [zdy]
  have := zcI b
  unfold lenB
  omega
set_option maxRecDepth 100000 in
set_option maxHeartbeats 8000000 in
theorem zjt (b : List UInt8) (hb : b.length ≤ 20000) : Ctr Tryz.prog 101 [.sl 1 b.length (bytesF b), .b false] (.tu [.sl 1 (packD b).length (bytesF (packD b)), .i .i64 0]) := by
  have cN := zkr
  have cF := zhx b (by omega)
  have hz := zcI b
  have cB := zhv (bitsOf b) (by omega)
  have e1 : (packD b).length = lenB (bitsOf b).length := zdy _
  have e2 : bytesF (packD b) = bitF (bitsOf b) := (zef _).symm
  rw [e1, e2]
  unfold wO at cF cB
  generalize bitsOf b = z at *
  refine zaE Tryz.func101 rfl Tryz.ntmps101 Tryz.results101 rfl rfl fun X hL hX => ?_
  repeat' (first |refine T.adoptVA 70 0 101 5 1 _ (bitF []) rfl rfl rfl ?_|refine zaS (f := 149) [] [(70, .var [.nilS, .i .i64 0])] [] [70] rfl rfl (by decide) (fun _ h => by cases h) (fun k h _ => by rw [List.mem_singleton.1 h];rfl) rfl rfl Tryz.call149 trivial rfl rfl rfl rfl cN ?_|refine zaS (f := 151) (wOl []) (wOl z) [70, 101] [70, 101] rfl rfl (by decide) (fun _ h => h) (fun _ h h2 => absurd h h2) rfl rfl Tryz.call151 ⟨rfl, rfl, trivial⟩ rfl (zba _) (zba _) rfl cF ?_|refine zaS (f := 152) (wOl z) [(70, .var [.gs 101 1 (lenB z.length) (bitF z), .i .i64 ((z.length : Nat) : Int)]), (101, .row 5 1 (lenB z.length))] [70, 101] [70, 101] rfl rfl (by decide) (fun _ h => h) (fun _ h h2 => absurd h h2) rfl rfl Tryz.call152 ⟨rfl, rfl, trivial⟩ rfl (zba _) rfl rfl cB ?_|with_reducible (first |refine zag ?_|refine zaa ?_|refine zaf ?_|refine zac ?_|refine zar ?_|refine zah ?_)|refine zab rfl rfl True.intro ?_|refine zak rfl ?_|((first |refine zad rfl ?_ ?_)<;>intro<;>try (first |(exfalso;omega)))|refine zau rfl ?_|fail)
  all_goals first
    | rfl
    | (exfalso; omega)
    | trace_state

def growRenB : Go.Shelf.Ren := ⟨fun | 4 => 153 | n => n, fun | 22 => 58 | 25 => 5 | n => n, fun | n => n⟩
theorem growLaysB : Go.Proofs.Lays8.n4 Tryz.prog growRenB := {
  mixed := by kernel_rfl
  f4 := ⟨"slices.Grow[[]byte,byte]", rfl, Tryz.func153.trans (congrArg some (by kernel_rfl))⟩
  t0 := Tryz.underlying0
  a0 := Tryz.isAgg0
  z0 := Tryz.sizeOf0
  v0 := Tryz.zeroValue0
  t3 := Tryz.underlying3
  a3 := Tryz.isAgg3
  z3 := Tryz.sizeOf3
  v3 := Tryz.zeroValue3
  t4 := Tryz.underlying4
  a4 := Tryz.isAgg4
  z4 := Tryz.sizeOf4
  v4 := Tryz.zeroValue4
  t9 := Tryz.underlying9
  a9 := Tryz.isAgg9
  z9 := Tryz.sizeOf9
  v9 := Tryz.zeroValue9
  t20 := Tryz.underlying20
  a20 := Tryz.isAgg20
  z20 := Tryz.sizeOf20
  v20 := Tryz.zeroValue20
  t22 := Tryz.underlying58
  a22 := Tryz.isAgg58
  z22 := Tryz.sizeOf58
  v22 := Tryz.zeroValue58 }
theorem growInfoB : (Tryz.prog.info? 5).map (fun i => (i.zero, i.size, i.bytes)) = some (some (Value.int .u8 0), 1, 1) := by kernel_rfl
theorem ziw (n : Nat) (h0 : 0 < n) (hn : n ≤ 100000000) (f : Nat → List D) : CtrO Tryz.prog 153 [.nilS, .i .i64 n] [] (.gs 105 1 0 f) [(105, .row 5 1 0)] := by
  intro X vs hids hH hI hsz hr
  have q0 := hr 0 (by simp)
  have q1 := hr 1 (by simp)
  rw [zjz hsz]
  generalize vs.getD 0 undef = v0 at *
  generalize vs.getD 1 undef = v1 at *
  cases q0
  cases q1
  obtain ⟨i0, hi0, hz0, hs0, hb0⟩ : ∃ i0 : TypeInfo, Tryz.prog.info? (growRenB.t 25) = some i0 ∧ i0.zero = some (Value.int .u8 0) ∧ i0.size = 1 ∧ i0.bytes = 1 := by
    have h := growInfoB
    show ∃ i0 : TypeInfo, Tryz.prog.info? 5 = some i0 ∧ _
    cases hq : Tryz.prog.info? 5 with
    | none => rw [hq] at h; cases h
    | some i0 =>
      rw [hq] at h
      simp only [Option.map_some, Option.some.injEq, Prod.mk.injEq] at h
      exact ⟨i0, rfl, h.1, h.2.1, h.2.2⟩
  refine (Any8.slices_Grow_grow growLaysB i0 _ hi0 hz0 (by omega) none 0 0 n [] X.w0 (Nat.le_refl _) (by omega) (by rw [hb0]; omega) (by omega) (by simp) (fun _ => rfl) (fun a h => by cases h)).mono ?_
  rintro e w' ⟨rfl, rfl⟩
  have hG := grownCap_le_maxLen X.w0 (0 + n) 0 (growRenB.t 25) (by unfold maxLen; omega)
  have hG2 : 0 + n ≤ grownCap X.w0 (0 + n) 0 (growRenB.t 25) := grownCap_ge X.w0 _ _ _
  generalize grownCap X.w0 (0 + n) 0 (growRenB.t 25) = G at hG hG2 ⊢
  obtain ⟨S', r', g1, g2, g3, g4, g5, g6⟩ := zed false (g := none) (k := 105) (cur := ([] : List Value).toArray ++ Builtin.zeroCells (Value.int .u8 0).cells (0 + n - 0) ++ Builtin.zeroCells (Value.int .u8 0).cells (G - (0 + n))) (el := 5) (z := 1) (N := 0) (cap := G) (f := f) (c := fun _ _ => undef) hH hI (Chg.drewAlloc X.w0 X.S0 hH.valid _ none) (fun b hb => by cases hb) (.inl ⟨Nat.le_refl _, by simp, Nat.le_refl _⟩) (RhoLe.new (hI.dom 105 rfl))
    (heap_alloc_new X.w0.drew _) (Nat.zero_le _) hG (by
      have hz : (Value.int .u8 0).cells.size = 1 := rfl
      simp only [Builtin.zeroCells, Array.size_append, Array.size_map, Array.size_range, hz, List.size_toArray, List.length_nil]
      omega) (fun i j hi hj => by omega) (fun o _ hs => by have := hH.valid _ _ hs; omega) (fun i hi => by omega) (fun i j hi hj => by omega)
  refine ⟨_, S', r', rfl, g1, g2, ?_, g6⟩
  rw [zaA]
  exact g3
def bsLF (ls : List (List UInt8)) : Nat → List D := fun i => [.sl 1 (ls.getD i []).length (bytesF (ls.getD i []))]
theorem zeZ {ls : List (List UInt8)} {i : Nat} (h : i < ls.length) : (ls.take (i + 1)).flatten = (ls.take i).flatten ++ ls.getD i [] := by
  rw [List.take_add_one, List.flatten_append]
  simp [List.getD_eq_getElem?_getD, h]
theorem zcs (ls : List (List UInt8)) (i : Nat) : (ls.take i).flatten.length ≤ ls.flatten.length := by
  have e : ls.flatten.length = (ls.take i).flatten.length + (ls.drop i).flatten.length := by
    rw [← List.length_append, ← List.flatten_append, List.take_append_drop]
  omega
theorem zeQ (a b : List UInt8) (g : Nat → List D) (hg : ∀ i, i < b.length → g i = bytesF b i) : catF a.length (bytesF a) b.length g = bytesF (a ++ b) := by
  funext j
  unfold catF
  by_cases h : j < a.length
  · rw [if_pos h]
    simp [bytesF, List.getD_eq_getElem?_getD, List.getElem?_append_left h]
  · rw [if_neg h]
    by_cases h2 : j < a.length + b.length
    · rw [if_pos h2, hg _ (by omega)]
      simp [bytesF, List.getD_eq_getElem?_getD, List.getElem?_append_right (show a.length ≤ j by omega)]
    · rw [if_neg h2]
      simp only [bytesF, List.getD_eq_getElem?_getD]
      rw [List.getElem?_eq_none (show a.length ≤ j by omega), List.getElem?_eq_none (show (a ++ b).length ≤ j by rw [List.length_append]; omega)]
theorem zlj (a b : List UInt8) : catF a.length (bytesF a) b.length (bytesF b) = bytesF (a ++ b) := zeQ a b _ fun _ _ => rfl
set_option maxRecDepth 100000 in
set_option maxHeartbeats 4000000 in
theorem zgA (ls : List (List UInt8)) (hl : ls.length ≤ 100) (h0 : 0 < ls.flatten.length) (hn : ls.flatten.length ≤ 4194304) :
    CtrO Tryz.prog 103 [.sl 1 ls.length (bsLF ls)] [] (.gs 105 1 ls.flatten.length (bytesF ls.flatten)) [(105, .row 5 1 ls.flatten.length)] := by
  refine zbG (ids := []) (ids2 := [105]) Tryz.func103 rfl Tryz.ntmps103 Tryz.results103 rfl rfl rfl (fun _ h => by cases h) rfl rfl fun X hL hX => ?_
  repeat' (first |with_reducible (first |refine zag ?_|refine zaa ?_|refine zaf ?_|refine zac ?_|refine zae ?_)|refine zab rfl rfl True.intro ?_|fail)
  refine T.loop hL (fun i : Nat => [(0, .sl 1 ls.length (bsLF ls)), (3, .i .i64 (ls.take i).flatten.length), (9, .sl 1 ls.length (bsLF ls)), (10, .i .i64 ls.length), (11, .i .i64 i)]) (fun _ => [])
    (fun i => i ≤ ls.length) (fun i => ls.length - i) 0 (Nat.zero_le _)
    ⟨⟨rfl, rfl, rfl, rfl, rfl, trivial⟩, trivial, rfl, by rw [hX]; simp⟩ ?_
  rintro i g1
  try dsimp only at g1 ⊢
  have hle := zcs ls i
  have hnat : (i : Int).toNat = i := Int.toNat_natCast i
  by_cases hil : i < ls.length
  · have hil' : (i : Int) < ls.length := by omega
    have hle2 := zcs ls (i + 1)
    have e : ((ls.take (i + 1)).flatten.length : Int) = (ls.take i).flatten.length + ((ls.getD (i : Int).toNat []).length : Int) := by
      rw [zeZ hil, List.length_append, hnat]
      omega
    have hpos : ¬ ((ls.take i).flatten.length : Int) + ((ls.getD (i : Int).toNat []).length : Int) < 0 := by omega
    have hsz : (ls.getD (i : Int).toNat []).length ≤ 4194304 := by omega
    repeat' (first |with_reducible (first |refine zag ?_|refine zaa ?_|refine zaf ?_|refine zac ?_|refine zah ?_|refine zae ?_|refine zai ?_)|refine zab rfl rfl True.intro ?_|refine zak rfl ?_|((first |refine zad rfl ?_ ?_)<;>intro<;>try (first |contradiction))|((first |refine zab rfl rfl ?_ ?_);focus (first |omega|exact le_ rfl|((repeat' refine And.intro ?_ ?_)<;>omega)))|fail)
    all_goals exact ⟨i + 1, by omega, by omega, ⟨rfl, congrArg (D.i .i64) e.symm, rfl, rfl, rfl, trivial⟩, trivial, rfl, by rw [hX]; simp⟩
  have hil' : ¬ (i : Int) < ls.length := by omega
  have ea : ls.take i = ls := List.take_of_length_le (by omega)
  rw [ea]
  have cG := ziw ls.flatten.length h0 (by omega) (bytesF [])
  repeat' (first |refine zby (f := 153) [] [(105, .row 5 1 0)] [] [105] rfl rfl (by decide) (fun _ h => by cases h) (fun k h _ => by rw [List.mem_singleton.1 h];rfl) rfl rfl Tryz.call153 trivial rfl rfl rfl rfl cG ?_|with_reducible (first |refine zag ?_|refine zaa ?_|refine zaf ?_|refine zac ?_|refine zan ?_|refine zae ?_|refine zao ?_)|refine zab rfl rfl True.intro ?_|((first |refine zad rfl ?_ ?_)<;>intro<;>try (first |contradiction))|refine zat rfl ?_|fail)
  refine T.loop hL (fun i : Nat => [(6, .gs 105 1 (ls.take i).flatten.length (bytesF (ls.take i).flatten)), (25, .sl 1 ls.length (bsLF ls)), (26, .i .i64 ls.length), (27, .i .i64 i)]) (fun i => [(105, .row 5 1 (ls.take i).flatten.length)])
    (fun i => i ≤ ls.length) (fun i => ls.length - i) 0 (Nat.zero_le _)
    ⟨⟨by rfl, rfl, rfl, rfl, trivial⟩, ⟨by rfl, trivial⟩, rfl, by rw [hX]; simp⟩ ?_
  clear cG ea hil hil' hle hnat
  rintro q g1
  try dsimp only at g1 ⊢
  have hle := zcs ls q
  have hnat : (q : Int).toNat = q := Int.toNat_natCast q
  by_cases hil : q < ls.length
  · have hil' : (q : Int) < ls.length := by omega
    have hle2 := zcs ls (q + 1)
    have e := zeZ hil
    have e2 := zlj (ls.take q).flatten (ls.getD (q : Int).toNat [])
    rw [hnat] at e2
    have el : (ls.take (q + 1)).flatten.length = (ls.take q).flatten.length + (ls.getD q []).length := by rw [e, List.length_append]
    have hsz : (ls.getD (q : Int).toNat []).length ≤ 4194304 := by rw [hnat]; omega
    have hb1 : ((ls.take q).flatten.length + (ls.getD (q : Int).toNat []).length) * 1 ≤ 140737488355328 := by rw [hnat]; omega
    repeat' (first |with_reducible (first |refine zag ?_|refine zaa ?_|refine zaf ?_|refine zac ?_|refine zah ?_|refine zae ?_|refine zai ?_)|refine zab rfl rfl True.intro ?_|((first |refine zad rfl ?_ ?_)<;>intro<;>try (first |contradiction))|((first |refine zab rfl rfl ?_ ?_|refine zaw rfl rfl ?_ ?_);focus (first |omega|exact le_ rfl|((repeat' refine And.intro ?_ ?_)<;>omega)|((repeat' refine And.intro ?_ ?_)<;>first |omega|rfl)))|fail)
    all_goals exact ⟨q + 1, by omega, by omega, ⟨by rw [e, ← e2, List.length_append]; rfl, rfl, rfl, rfl, trivial⟩, ⟨by rw [e, List.length_append]; rfl, trivial⟩, rfl, by rw [hX]; simp⟩
  have hil' : ¬ (q : Int) < ls.length := by omega
  have ea : ls.take q = ls := List.take_of_length_le (by omega)
  rw [ea]
  repeat' (first |with_reducible (first |refine zag ?_|refine zaa ?_|refine zaf ?_|refine zac ?_|refine zar ?_|refine zan ?_|refine zao ?_)|refine zab rfl rfl True.intro ?_|((first |refine zad rfl ?_ ?_)<;>intro<;>try (first |contradiction))|refine zat rfl ?_|refine zev rfl rfl ?_|fail)
  all_goals exact ⟨⟨rfl, trivial⟩⟩

def le4 (v : Nat) : List UInt8 := [UInt8.ofNat (v % 256), UInt8.ofNat (v / 256 % 256), UInt8.ofNat (v / 65536 % 256), UInt8.ofNat (v / 16777216 % 256)]
def headZ : List UInt8 := [31, 139, 8, 0, 0, 0, 0, 0, 0, 255]
def wrapG (b : List UInt8) : List UInt8 := headZ ++ packD b ++ le4 (crcOf b) ++ le4 b.length
theorem zdw (b : List UInt8) : (wrapG b).length ≤ 5 * b.length + 20 := by
  have := zds b
  unfold wrapG
  simp only [List.length_append, show headZ.length = 10 from rfl, show ∀ v, (le4 v).length = 4 from fun _ => rfl]
  omega
theorem zcC (n : Nat) : IntKind.u8.wrap ((n : Nat) : Int) = (((UInt8.ofNat (n % 256)).toNat : Nat) : Int) := by
  rw [IntKind.wrap_u8, UInt8.toNat_ofNat']
  omega
theorem zkV (v : Nat) : ((v : Int) / 2 ^ Int.toNat 8) = ((v / 256 : Nat) : Int) := by
  rw [show (2 : Int) ^ Int.toNat 8 = 256 by decide]
  omega
theorem zjA (v : Nat) : ((v : Int) / 2 ^ Int.toNat 16) = ((v / 65536 : Nat) : Int) := by
  rw [show (2 : Int) ^ Int.toNat 16 = 65536 by decide]
  omega
theorem zjN (v : Nat) : ((v : Int) / 2 ^ Int.toNat 24) = ((v / 16777216 : Nat) : Int) := by
  rw [show (2 : Int) ^ Int.toNat 24 = 16777216 by decide]
  omega
set_option maxRecDepth 100000 in
set_option maxHeartbeats 4000000 in
theorem zis (s : List UInt8) (v : Nat) (hs : s.length ≤ 4194304) : CtrO Tryz.prog 102 [.gs 105 1 s.length (bytesF s), .i .u32 ((v : Nat) : Int)] [(105, .row 5 1 s.length)] (.gs 105 1 (s ++ le4 v).length (bytesF (s ++ le4 v))) [(105, .row 5 1 (s ++ le4 v).length)] := by
  have e := zeQ s (le4 v) (chunk 1 [.i .u8 (IntKind.u8.wrap ((v : Nat) : Int)), .i .u8 (IntKind.u8.wrap ((v : Int) / 2 ^ Int.toNat 8)), .i .u8 (IntKind.u8.wrap ((v : Int) / 2 ^ Int.toNat 16)), .i .u8 (IntKind.u8.wrap ((v : Int) / 2 ^ Int.toNat 24))]) (fun i hi => by
    have hi : i < 4 := hi
    have : i = 0 ∨ i = 1 ∨ i = 2 ∨ i = 3 := by omega
    rcases this with rfl | rfl | rfl | rfl
    · show [D.i .u8 (IntKind.u8.wrap ((v : Nat) : Int))] = _
      rw [zcC]
      rfl
    · show [D.i .u8 (IntKind.u8.wrap ((v : Int) / 2 ^ Int.toNat 8))] = _
      rw [zkV, zcC]
      rfl
    · show [D.i .u8 (IntKind.u8.wrap ((v : Int) / 2 ^ Int.toNat 16))] = _
      rw [zjA, zcC]
      rfl
    · show [D.i .u8 (IntKind.u8.wrap ((v : Int) / 2 ^ Int.toNat 24))] = _
      rw [zjN, zcC]
      rfl)
  have hl : (s ++ le4 v).length = s.length + 4 := by rw [List.length_append]; rfl
  rw [hl, ← e]
  refine zbF (ids := [105]) (ids2 := [105]) Tryz.func102 rfl Tryz.ntmps102 Tryz.results102 rfl rfl rfl (fun _ h => h) rfl rfl fun X hL hX => ?_
  repeat' (first |with_reducible (first |refine zag ?_|refine zaa ?_|refine zaf ?_|refine zac ?_|refine zar ?_)|refine zab rfl rfl True.intro ?_|((first |refine zab rfl rfl ?_ ?_|refine zaw rfl rfl ?_ ?_);focus (first |omega|((repeat first |rw [wrap_u8]);(repeat' refine And.intro ?_ ?_)<;>omega)|((repeat' refine And.intro ?_ ?_)<;>first |omega|rfl)))|refine zbm rfl (.refl _) ⟨⟨rfl, trivial⟩⟩|fail)
  all_goals trace_state
theorem zjP (d : List UInt8) : Weak (.sl 1 2 (chunk 1 [.sl 1 10 (chunk 1 [.i .u8 31, .i .u8 139, .i .u8 8, .i .u8 0, .i .u8 0, .i .u8 0, .i .u8 0, .i .u8 0, .i .u8 0, .i .u8 255]), .sl 1 d.length (bytesF d)])) (.sl 1 [headZ, d].length (bsLF [headZ, d])) :=
  .sl 1 2 _ _ (fun i hi => match i, hi with
    | 0, _ => ⟨rfl, rfl⟩
    | 1, _ => ⟨rfl, rfl⟩) fun i j hi hj => match i, j, hi, hj with
    | 0, 0, _, _ => .sl _ _ _ _ (fun i hi => match i, hi with
      | 0, _ => ⟨rfl, rfl⟩ | 1, _ => ⟨rfl, rfl⟩ | 2, _ => ⟨rfl, rfl⟩ | 3, _ => ⟨rfl, rfl⟩ | 4, _ => ⟨rfl, rfl⟩ | 5, _ => ⟨rfl, rfl⟩ | 6, _ => ⟨rfl, rfl⟩ | 7, _ => ⟨rfl, rfl⟩ | 8, _ => ⟨rfl, rfl⟩ | 9, _ => ⟨rfl, rfl⟩) fun i j hi hj => match i, j, hi, hj with
      | 0, 0, _, _ => .refl _ | 1, 0, _, _ => .refl _ | 2, 0, _, _ => .refl _ | 3, 0, _, _ => .refl _ | 4, 0, _, _ => .refl _ | 5, 0, _, _ => .refl _ | 6, 0, _, _ => .refl _ | 7, 0, _, _ => .refl _ | 8, 0, _, _ => .refl _ | 9, 0, _, _ => .refl _
    | 1, 0, _, _ => .refl _
theorem zfG (b : List UInt8) : btsL b.length (bytesF b) = b := by
  refine List.ext_getElem (zdq _ _) fun i h1 h2 => ?_
  have h3 := zkb (len := b.length) (f := bytesF b) h2
  have h4 : byteV (bytesF b i) = (b.getD i 0).toNat := by
    have := UInt8.toNat_lt (b.getD i 0)
    show ((((b.getD i 0).toNat : Nat) : Int) % 256).toNat = _
    omega
  rw [h4] at h3
  have h5 := UInt8.toNat_inj.1 h3
  simpa [List.getD_eq_getElem?_getD, h1, h2] using h5
set_option maxRecDepth 100000 in
set_option maxHeartbeats 4000000 in
theorem zkO (b : List UInt8) (hb : b.length ≤ 20000) : Ctr Tryz.prog 54 [.sl 1 b.length (bytesF b)] (.tu [.sl 1 (wrapG b).length (bytesF (wrapG b)), .i .i64 0]) := by
  have cD := zjt b hb
  have hl := zds b
  have hfl : [headZ, packD b].flatten = headZ ++ packD b := by simp
  have hh : headZ.length = 10 := rfl
  have cC := (zgA [headZ, packD b] (by simp) (by rw [hfl, List.length_append, hh]; omega) (by rw [hfl, List.length_append, hh]; omega)).weakOne (zjP (packD b))
  rw [hfl] at cC
  have cO := zfU b.length (bytesF b) (zbj b) (by omega)
  rw [zfG] at cO
  have hn1 : (headZ ++ packD b).length ≤ 200000 := by rw [List.length_append, hh]; omega
  have c1 := zis (headZ ++ packD b) (crcOf b) (by omega)
  have hn2 : (headZ ++ packD b ++ le4 (crcOf b)).length ≤ 200004 := by rw [List.length_append]; show _ + 4 ≤ _; omega
  have c2 := zis (headZ ++ packD b ++ le4 (crcOf b)) b.length (by omega)
  have hw : IntKind.u32.wrap ((b.length : Nat) : Int) = ((b.length : Nat) : Int) := by rw [IntKind.wrap_u32]; omega
  rw [← hw] at c2
  have hG : wrapG b = headZ ++ packD b ++ le4 (crcOf b) ++ le4 b.length := rfl
  rw [hG]
  generalize packD b = d at *
  generalize headZ ++ d = s1 at *
  generalize s1 ++ le4 (crcOf b) = s2 at *
  generalize s2 ++ le4 b.length = s3 at *
  clear hw hG hfl
  refine zaE Tryz.func54 rfl Tryz.ntmps54 Tryz.results54 rfl rfl fun X hL hX => ?_
  repeat' (first |refine zaj (f := 101) rfl rfl Tryz.call101 rfl cD ?_|refine zaj (f := 100) rfl rfl Tryz.call100 rfl cO ?_|refine zby (f := 103) [] [(105, .row 5 1 s1.length)] [] [105] rfl rfl (by decide) (fun _ h => by cases h) (fun k h _ => by rw [List.mem_singleton.1 h];rfl) rfl rfl Tryz.call103 trivial rfl rfl rfl rfl cC ?_|refine zaS (f := 102) [(105, .row 5 1 s1.length)] [(105, .row 5 1 s2.length)] [105] [105] rfl rfl (by decide) (fun _ h => h) (fun _ h h2 => absurd h h2) rfl rfl Tryz.call102 ⟨rfl, trivial⟩ rfl rfl rfl rfl c1 ?_|refine zaS (f := 102) [(105, .row 5 1 s2.length)] [(105, .row 5 1 s3.length)] [105] [105] rfl rfl (by decide) (fun _ h => h) (fun _ h h2 => absurd h h2) rfl rfl Tryz.call102 ⟨rfl, trivial⟩ rfl rfl rfl rfl c2 ?_|with_reducible (first |refine zag ?_|refine zaa ?_|refine zaf ?_|refine zac ?_|refine zar ?_|refine zah ?_)|refine zab rfl rfl True.intro ?_|refine zak rfl ?_|((first |refine zaw rfl rfl ?_ ?_);focus (first |((repeat' refine And.intro ?_ ?_)<;>omega)|((repeat' refine And.intro ?_ ?_)<;>first |omega|rfl)))|refine zau rfl ?_|fail)
  all_goals first
    | rfl
    | (exfalso; omega)
    | trace_state

theorem CtrO.pureK {P : Program} {f : FuncId} {args : List D} {ow' : Ow} {d : D} (h : CtrO P f args [] d ow') (hd : d.shutA.free = true) : Ctr P f args d.shutA :=
  Ctr.of (ow' := ow') (fun X vs h1 h2 h3 h4 h5 => (h X vs h1 h2 h3 h4 h5).mono fun e w' h => by
    obtain ⟨v, S', r', g1, g2, g3⟩ := h
    exact ⟨v, S', r', g1, g2.shutA, g3⟩) hd
abbrev tCL : List UInt8 := [67, 111, 110, 116, 101, 110, 116, 45, 76, 101, 110, 103, 116, 104]
abbrev tVary : List UInt8 := [86, 97, 114, 121]
abbrev tAE : List UInt8 := [65, 99, 99, 101, 112, 116, 45, 69, 110, 99, 111, 100, 105, 110, 103]
abbrev tET : List UInt8 := [69, 84, 97, 103]
abbrev tCT : List UInt8 := [67, 111, 110, 116, 101, 110, 116, 45, 84, 121, 112, 101]
abbrev tCE : List UInt8 := [67, 111, 110, 116, 101, 110, 116, 45, 69, 110, 99, 111, 100, 105, 110, 103]
abbrev tGz : List UInt8 := [103, 122, 105, 112]
abbrev tHEAD : List UInt8 := [72, 69, 65, 68]
structure ReqR where
  method : List UInt8
  path : List UInt8
  gz : Bool
  any : Bool
  tags : List (List UInt8)
def reqP (r : ReqR) : List D := [.s r.method, .s r.path, .b r.gz, .b r.any, .sl 1 r.tags.length (txK r.tags)]
def tagR (body : List UInt8) (gz : Bool) : List UInt8 := tagF (crcOf (btsL body.length (bytesF body))) body.length gz
abbrev varyR (tag : List UInt8) : List (List UInt8 × List UInt8) := [(tVary, tAE), (tET, tag)]
def fullR (r : ReqR) (kind tag b : List UInt8) : RspR := ⟨200, (if r.gz = true then [(tCT, kind), (tCE, tGz)] else [(tCT, kind)]) ++ varyR tag ++ [(tCL, Lib.itoa (b.length : Int))], if r.method = tHEAD then [] else b⟩
def ansR (r : ReqR) (body kind : List UInt8) (st : Int) : RspR :=
  if st = 204 then ⟨204, [], []⟩
  else if st = 200 then
    if r.any = true ∨ tagR body r.gz ∈ r.tags then ⟨304, varyR (tagR body r.gz), []⟩
    else fullR r kind (tagR body r.gz) (if r.gz = true then wrapG body else body)
  else ⟨st, [(tCL, [48])], []⟩
theorem zhZ (a b : List UInt8) : Weak (.sl 1 2 (chunk 1 [.s a, .s b])) (.sl 1 (2 * [(a, b)].length) (flF [(a, b)])) :=
  .sl _ _ _ _ (fun i hi => match i, hi with
    | 0, _ => ⟨rfl, rfl⟩ | 1, _ => ⟨rfl, rfl⟩) fun i j hi hj => match i, j, hi, hj with
    | 0, 0, _, _ => .refl _ | 1, 0, _, _ => .refl _
theorem zhI (a b c d : List UInt8) : Weak (.sl 1 4 (chunk 1 [.s a, .s b, .s c, .s d])) (.sl 1 (2 * [(a, b), (c, d)].length) (flF [(a, b), (c, d)])) :=
  .sl _ _ _ _ (fun i hi => match i, hi with
    | 0, _ => ⟨rfl, rfl⟩ | 1, _ => ⟨rfl, rfl⟩ | 2, _ => ⟨rfl, rfl⟩ | 3, _ => ⟨rfl, rfl⟩) fun i j hi hj => match i, j, hi, hj with
    | 0, 0, _, _ => .refl _ | 1, 0, _, _ => .refl _ | 2, 0, _, _ => .refl _ | 3, 0, _, _ => .refl _
theorem headG1 (a b : List UInt8) : CtrO Tryz.prog 51 [.sl 1 2 (chunk 1 [.s a, .s b])] [] (.gs 105 2 1 (hdF [(a, b)])) [(105, .row 54 2 1)] := (zel [(a, b)] (by show 1 ≤ 1000; decide)).weakOne (zhZ a b)
theorem headP1 (a b : List UInt8) : Ctr Tryz.prog 51 [.sl 1 2 (chunk 1 [.s a, .s b])] (.sl 2 1 (hdF [(a, b)])) := (headG1 a b).pureK rfl
theorem headP2 (a b c d : List UInt8) : Ctr Tryz.prog 51 [.sl 1 4 (chunk 1 [.s a, .s b, .s c, .s d])] (.sl 2 2 (hdF [(a, b), (c, d)])) := ((zel [(a, b), (c, d)] (by show 2 ≤ 1000; decide)).weakOne (zhI a b c d)).pureK rfl
theorem zki (a b c : List (List UInt8 × List UInt8)) : Weak (.sl 1 3 (chunk 1 [.sl 2 a.length (hdF a), .sl 2 b.length (hdF b), .sl 2 c.length (hdF c)])) (.sl 1 [a, b, c].length (hdLF [a, b, c])) :=
  .sl _ _ _ _ (fun i hi => match i, hi with
    | 0, _ => ⟨rfl, rfl⟩ | 1, _ => ⟨rfl, rfl⟩ | 2, _ => ⟨rfl, rfl⟩) fun i j hi hj => match i, j, hi, hj with
    | 0, 0, _, _ => .refl _ | 1, 0, _, _ => .refl _ | 2, 0, _, _ => .refl _
theorem concat3 (a b c : List (List UInt8 × List UInt8)) (h0 : 0 < [a, b, c].flatten.length) (h : [a, b, c].flatten.length ≤ 1000000) :
    Ctr Tryz.prog 55 [.sl 1 3 (chunk 1 [.sl 2 a.length (hdF a), .sl 2 b.length (hdF b), .sl 2 c.length (hdF c)])] (.sl 2 [a, b, c].flatten.length (hdF [a, b, c].flatten)) :=
  ((zgj [a, b, c] (by show 3 ≤ 100; decide) h0 h).weakOne (zki a b c)).pureK rfl
theorem Weak.ag3 {a b c a' b' c' : D} (h1 : Weak a a') (h2 : Weak b b') (h3 : Weak c c') : Weak (.ag [a, b, c]) (.ag [a', b', c']) := .ag _ _ rfl fun j hj => match j, hj with
  | 0, _ => h1
  | 1, _ => h2
  | 2, _ => h3
set_option maxRecDepth 100000 in
set_option maxHeartbeats 8000000 in
theorem zig (r : ReqR) (body kind : List UInt8) (st : Int) (hb : body.length ≤ 400) (ht : r.tags.length ≤ 1000) :
    Ctr Tryz.prog 25 [.ag (reqP r), .sl 1 body.length (bytesF body), .s kind, .i .i64 st] (.ag (rspP (ansR r body kind st))) := by
  obtain ⟨method, path, gz, any, tags⟩ := r
  dsimp only at ht
  have cT : Ctr Tryz.prog 52 [.sl 1 body.length (bytesF body), .b gz] (.s (tagR body gz)) := zkA body.length (bytesF body) gz (fun j _ => ⟨_, rfl⟩) (by omega)
  have c0 := headP1 tCL [48]
  have cV := headP2 tVary tAE tET (tagR body gz)
  have cH := zkP tags (tagR body gz) (by omega)
  have cB := zeo body.length (bytesF body) (fun j _ => ⟨_, rfl⟩) (by omega)
  have cK := headG1 tCT kind
  have cW := zkO body (by omega)
  have cZ := headP1 tCE tGz
  have lW := zdw body
  unfold ansR fullR
  dsimp only
  generalize tagR body gz = tag at *
  generalize wrapG body = wb at *
  refine Ctr.of (ow' := []) (zbF (ids := []) (ids2 := []) Tryz.func25 rfl Tryz.ntmps25 Tryz.results25 rfl rfl rfl (fun _ h => by cases h) rfl rfl fun X hL hX => ?_) rfl
  unfold reqP
  dsimp only
  by_cases h1 : st = 204
  · rw [if_pos h1]
    have h2 : ¬ st = 200 := by omega
    subst h1
    repeat' (first |with_reducible (first |refine zag ?_|refine zaa ?_|refine zaf ?_|refine zac ?_|refine zar ?_|refine zae ?_|refine zaB ?_|refine zaO ?_)|refine zab rfl rfl True.intro ?_|refine zas rfl ?_|refine zak rfl ?_|((first |refine zaw rfl rfl ?_ ?_|refine zax rfl ?_ ?_);focus (first |((repeat' refine And.intro ?_ ?_)<;>omega)|((repeat' refine And.intro ?_ ?_)<;>first |rfl|exact Nat.le_refl _)))|refine zbm rfl ?_ ⟨trivial⟩|fail)
    all_goals exact .ag3 (.refl _) (.nil _ _) (.nil _ _)
  rw [if_neg h1]
  by_cases h2 : st = 200
  rotate_left
  · rw [if_neg h2]
    repeat' (first |refine zaj (f := 51) rfl rfl Tryz.call51 rfl c0 ?_|with_reducible (first |refine zag ?_|refine zaa ?_|refine zaf ?_|refine zac ?_|refine zar ?_|refine zae ?_|refine zaB ?_|refine zaO ?_)|refine zab rfl rfl True.intro ?_|((first |refine zad rfl ?_ ?_)<;>intro<;>try (first |contradiction))|((first |refine zaw rfl rfl ?_ ?_|refine zax rfl ?_ ?_);focus (first |((repeat' refine And.intro ?_ ?_)<;>omega)|((repeat' refine And.intro ?_ ?_)<;>first |omega|rfl|exact Nat.le_refl _)))|refine zbm rfl ?_ ⟨trivial⟩|fail)
    all_goals exact .ag3 (.refl _) (.refl _) (.nil _ _)
  rw [if_pos h2]
  subst h2
  by_cases h3 : any = true ∨ tag ∈ tags
  · rw [if_pos h3]
    cases any with
    | true =>
      repeat' (first |refine zaj (f := 52) rfl rfl Tryz.call52 rfl cT ?_|refine zaj (f := 51) rfl rfl Tryz.call51 rfl cV ?_|with_reducible (first |refine zag ?_|refine zaa ?_|refine zaf ?_|refine zac ?_|refine zar ?_|refine zah ?_|refine zae ?_|refine zai ?_|refine zaB ?_)|refine zab rfl rfl True.intro ?_|refine zay rfl rfl rfl ?_|refine zas rfl ?_|((first |refine zab rfl rfl ?_ ?_|refine zaw rfl rfl ?_ ?_|refine zax rfl ?_ ?_);focus (first |exact le_ rfl|((repeat' refine And.intro ?_ ?_)<;>omega)|((repeat' refine And.intro ?_ ?_)<;>first |omega|rfl|exact Nat.le_refl _)))|refine zbm rfl ?_ ⟨trivial⟩|fail)
      all_goals exact .ag3 (.refl _) (.refl _) (.nil _ _)
    | false =>
      have h4 : tag ∈ tags := h3.resolve_left (by decide)
      rw [decide_eq_true h4] at cH
      repeat' (first |refine zaj (f := 52) rfl rfl Tryz.call52 rfl cT ?_|refine zaj (f := 51) rfl rfl Tryz.call51 rfl cV ?_|refine zbr (f := 33) rfl rfl rfl rfl Tryz.call33 rfl cH ?_|with_reducible (first |refine zag ?_|refine zaa ?_|refine zaf ?_|refine zac ?_|refine zar ?_|refine zah ?_|refine zae ?_|refine zai ?_|refine zaB ?_)|refine zab rfl rfl True.intro ?_|refine zam rfl rfl rfl rfl True.intro ?_|refine zas rfl ?_|((first |refine zab rfl rfl ?_ ?_|refine zam rfl rfl rfl rfl ?_ ?_|refine zaw rfl rfl ?_ ?_|refine zax rfl ?_ ?_);focus (first |exact le_ rfl|((repeat' refine And.intro ?_ ?_)<;>omega)|((repeat' refine And.intro ?_ ?_)<;>first |omega|rfl|exact Nat.le_refl _)))|refine zbm rfl ?_ ⟨trivial⟩|fail)
      all_goals exact .ag3 (.refl _) (.refl _) (.nil _ _)
  rw [if_neg h3]
  obtain rfl : any = false := by
    cases any with
    | true => exact absurd (.inl rfl) h3
    | false => rfl
  have h4 : ¬ tag ∈ tags := fun h => h3 (.inr h)
  rw [decide_eq_false h4] at cH
  clear h3 h4
  by_cases h5 : method = tHEAD
  · subst h5
    rw [if_pos rfl]
    cases gz with
    | true =>
      rw [if_pos rfl, if_pos rfl]
      have cI := zbz (wb.length : Int) (by omega) (by omega)
      have cL := headP1 tCL (Lib.itoa (wb.length : Int))
      have cC := concat3 [(tCT, kind), (tCE, tGz)] (varyR tag) [(tCL, Lib.itoa (wb.length : Int))] (by show 0 < 5; decide) (by show 5 ≤ 1000000; decide)
      generalize Lib.itoa (wb.length : Int) = it at *
      repeat' (first |refine zaj (f := 52) rfl rfl Tryz.call52 rfl cT ?_|refine zaj (f := 51) rfl rfl Tryz.call51 rfl cV ?_|refine zbr (f := 33) rfl rfl rfl rfl Tryz.call33 rfl cH ?_|refine zaj (f := 53) rfl rfl Tryz.call53 rfl cB ?_|refine zby (f := 51) [] [(105, .row 54 2 1)] [] [105] rfl rfl (by decide) (fun _ h => by cases h) (fun k h _ => by rw [List.mem_singleton.1 h];rfl) rfl rfl Tryz.call51 trivial rfl rfl rfl rfl cK ?_|refine zaj (f := 54) rfl rfl Tryz.call54 rfl cW ?_|refine zaj (f := 51) rfl rfl Tryz.call51 rfl cZ ?_|refine T.tellG 12 105 2 2 _ (hdF [(tCT, kind), (tCE, tGz)]) rfl (.of_eq (congrArg (D.sl 2 2) (zew [(tCT, kind)] [(tCE, tGz)]))) ?_|refine zaj (f := 56) rfl rfl Tryz.call56 rfl cI ?_|refine zaj (f := 51) rfl rfl Tryz.call51 rfl cL ?_|refine zaj (f := 55) rfl rfl Tryz.call55 rfl cC ?_|with_reducible (first |refine zag ?_|refine zaa ?_|refine zaf ?_|refine zac ?_|refine zar ?_|refine zah ?_|refine zae ?_|refine zai ?_)|refine zab rfl rfl True.intro ?_|refine zam rfl rfl rfl rfl True.intro ?_|refine zas rfl ?_|refine zak rfl ?_|((first |refine zab rfl rfl ?_ ?_|refine zam rfl rfl rfl rfl ?_ ?_|refine zaw rfl rfl ?_ ?_|refine zax rfl ?_ ?_);focus (first |exact le_ rfl|((repeat' refine And.intro ?_ ?_)<;>omega)|((repeat' refine And.intro ?_ ?_)<;>first |omega|rfl|exact Nat.le_refl _)))|refine zbm rfl ?_ ⟨trivial⟩|fail)
      all_goals exact .ag3 (.refl _) (.refl _) (.nil _ _)
    | false =>
      rw [if_neg (by decide), if_neg (by decide)]
      have cI := zbz (body.length : Int) (by omega) (by omega)
      have cL := headP1 tCL (Lib.itoa (body.length : Int))
      have cC := concat3 [(tCT, kind)] (varyR tag) [(tCL, Lib.itoa (body.length : Int))] (by show 0 < 4; decide) (by show 4 ≤ 1000000; decide)
      generalize Lib.itoa (body.length : Int) = it at *
      repeat' (first |refine zaj (f := 52) rfl rfl Tryz.call52 rfl cT ?_|refine zaj (f := 51) rfl rfl Tryz.call51 rfl cV ?_|refine zbr (f := 33) rfl rfl rfl rfl Tryz.call33 rfl cH ?_|refine zaj (f := 53) rfl rfl Tryz.call53 rfl cB ?_|refine zby (f := 51) [] [(105, .row 54 2 1)] [] [105] rfl rfl (by decide) (fun _ h => by cases h) (fun k h _ => by rw [List.mem_singleton.1 h];rfl) rfl rfl Tryz.call51 trivial rfl rfl rfl rfl cK ?_|refine zaj (f := 56) rfl rfl Tryz.call56 rfl cI ?_|refine zaj (f := 51) rfl rfl Tryz.call51 rfl cL ?_|refine zaj (f := 55) rfl rfl Tryz.call55 rfl cC ?_|with_reducible (first |refine zag ?_|refine zaa ?_|refine zaf ?_|refine zac ?_|refine zar ?_|refine zah ?_|refine zae ?_|refine zai ?_)|refine zab rfl rfl True.intro ?_|refine zam rfl rfl rfl rfl True.intro ?_|refine zas rfl ?_|refine zak rfl ?_|((first |refine zab rfl rfl ?_ ?_|refine zam rfl rfl rfl rfl ?_ ?_|refine zaw rfl rfl ?_ ?_|refine zax rfl ?_ ?_);focus (first |exact le_ rfl|((repeat' refine And.intro ?_ ?_)<;>omega)|((repeat' refine And.intro ?_ ?_)<;>first |omega|rfl|exact Nat.le_refl _)))|refine zbm rfl ?_ ⟨trivial⟩|fail)
      all_goals exact .ag3 (.refl _) (.refl _) (.nil _ _)
  · rw [if_neg h5]
    have h6 : ¬ (method == tHEAD) = true := fun h => h5 (by simpa using h)
    cases gz with
    | true =>
      rw [if_pos rfl, if_pos rfl]
      have cI := zbz (wb.length : Int) (by omega) (by omega)
      have cL := headP1 tCL (Lib.itoa (wb.length : Int))
      have cC := concat3 [(tCT, kind), (tCE, tGz)] (varyR tag) [(tCL, Lib.itoa (wb.length : Int))] (by show 0 < 5; decide) (by show 5 ≤ 1000000; decide)
      generalize Lib.itoa (wb.length : Int) = it at *
      repeat' (first |refine zaj (f := 52) rfl rfl Tryz.call52 rfl cT ?_|refine zaj (f := 51) rfl rfl Tryz.call51 rfl cV ?_|refine zbr (f := 33) rfl rfl rfl rfl Tryz.call33 rfl cH ?_|refine zaj (f := 53) rfl rfl Tryz.call53 rfl cB ?_|refine zby (f := 51) [] [(105, .row 54 2 1)] [] [105] rfl rfl (by decide) (fun _ h => by cases h) (fun k h _ => by rw [List.mem_singleton.1 h];rfl) rfl rfl Tryz.call51 trivial rfl rfl rfl rfl cK ?_|refine zaj (f := 54) rfl rfl Tryz.call54 rfl cW ?_|refine zaj (f := 51) rfl rfl Tryz.call51 rfl cZ ?_|refine T.tellG 12 105 2 2 _ (hdF [(tCT, kind), (tCE, tGz)]) rfl (.of_eq (congrArg (D.sl 2 2) (zew [(tCT, kind)] [(tCE, tGz)]))) ?_|refine zaj (f := 56) rfl rfl Tryz.call56 rfl cI ?_|refine zaj (f := 51) rfl rfl Tryz.call51 rfl cL ?_|refine zaj (f := 55) rfl rfl Tryz.call55 rfl cC ?_|with_reducible (first |refine zag ?_|refine zaa ?_|refine zaf ?_|refine zac ?_|refine zar ?_|refine zah ?_|refine zae ?_|refine zai ?_)|refine zab rfl rfl True.intro ?_|refine zam rfl rfl rfl rfl True.intro ?_|refine zas rfl ?_|refine zak rfl ?_|((first |refine zbT rfl ?_ ?_)<;>intro<;>try (first |contradiction))|((first |refine zab rfl rfl ?_ ?_|refine zam rfl rfl rfl rfl ?_ ?_|refine zaw rfl rfl ?_ ?_|refine zax rfl ?_ ?_);focus (first |exact le_ rfl|((repeat' refine And.intro ?_ ?_)<;>omega)|((repeat' refine And.intro ?_ ?_)<;>first |omega|rfl|exact Nat.le_refl _)))|refine zbm rfl ?_ ⟨trivial⟩|fail)
      all_goals exact .ag3 (.refl _) (.refl _) (.refl _)
    | false =>
      rw [if_neg (by decide), if_neg (by decide)]
      have cI := zbz (body.length : Int) (by omega) (by omega)
      have cL := headP1 tCL (Lib.itoa (body.length : Int))
      have cC := concat3 [(tCT, kind)] (varyR tag) [(tCL, Lib.itoa (body.length : Int))] (by show 0 < 4; decide) (by show 4 ≤ 1000000; decide)
      generalize Lib.itoa (body.length : Int) = it at *
      repeat' (first |refine zaj (f := 52) rfl rfl Tryz.call52 rfl cT ?_|refine zaj (f := 51) rfl rfl Tryz.call51 rfl cV ?_|refine zbr (f := 33) rfl rfl rfl rfl Tryz.call33 rfl cH ?_|refine zaj (f := 53) rfl rfl Tryz.call53 rfl cB ?_|refine zby (f := 51) [] [(105, .row 54 2 1)] [] [105] rfl rfl (by decide) (fun _ h => by cases h) (fun k h _ => by rw [List.mem_singleton.1 h];rfl) rfl rfl Tryz.call51 trivial rfl rfl rfl rfl cK ?_|refine zaj (f := 56) rfl rfl Tryz.call56 rfl cI ?_|refine zaj (f := 51) rfl rfl Tryz.call51 rfl cL ?_|refine zaj (f := 55) rfl rfl Tryz.call55 rfl cC ?_|with_reducible (first |refine zag ?_|refine zaa ?_|refine zaf ?_|refine zac ?_|refine zar ?_|refine zah ?_|refine zae ?_|refine zai ?_)|refine zab rfl rfl True.intro ?_|refine zam rfl rfl rfl rfl True.intro ?_|refine zas rfl ?_|refine zak rfl ?_|((first |refine zbT rfl ?_ ?_)<;>intro<;>try (first |contradiction))|((first |refine zab rfl rfl ?_ ?_|refine zam rfl rfl rfl rfl ?_ ?_|refine zaw rfl rfl ?_ ?_|refine zax rfl ?_ ?_);focus (first |exact le_ rfl|((repeat' refine And.intro ?_ ?_)<;>omega)|((repeat' refine And.intro ?_ ?_)<;>first |omega|rfl|exact Nat.le_refl _)))|refine zbm rfl ?_ ⟨trivial⟩|fail)
      all_goals exact .ag3 (.refl _) (.refl _) (.refl _)
end Go.Proofs.YtkkaamhocpmhkaaGreatDoor.Flow
