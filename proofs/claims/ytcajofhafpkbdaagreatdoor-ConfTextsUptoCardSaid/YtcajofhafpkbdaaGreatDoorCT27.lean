/- The texts G23, J7, G24, G19, G26, G27, one behind the other. -/
import Derived.Test.YtcajofhafpkbdaaGreatDoorCT14
import Derived.Test.YtcajofhafpkbdaaGreatDoorCT17
import Derived.Test.YtcajofhafpkbdaaGreatDoorCT19
import Derived.Test.YtcajofhafpkbdaaGreatDoorCT22
import Derived.Test.YtcajofhafpkbdaaGreatDoorCT25
import Derived.Test.YtcajofhafpkbdaaGreatDoorCT26
namespace Go.Proofs.YtcajofhafpkbdaaGreatDoor.Flow
open Go
def layR (y : J) : Option Fld := if (strsJ y.list).2 = true ∧ y.kind = 4 ∧ (strsJ y.list).1.length = 2 then some ((strsJ y.list).1.getD 0 [], (strsJ y.list).1.getD 1 []) else none
def laysP : List J → List Fld × Bool
  | [] => ([], true)
  | y :: r => match layR y with
    | none => ([], false)
    | some p => (p :: (laysP r).1, (laysP r).2)
theorem zqr {l : List J} {i : Nat} (h : i < l.length) : laysP (l.drop i) = match layR (l.getD i j0) with
    | none => ([], false)
    | some p => (p :: (laysP (l.drop (i + 1))).1, (laysP (l.drop (i + 1))).2) := by
  rw [List.drop_eq_getElem_cons h]
  rw [show l.getD i j0 = l[i] by simp [List.getD_eq_getElem?_getD, h]]
  rfl
def srN3 (x : J) : Nat := gN x kLayers (gN x kCsv (gN x kArchive 0))
def srB3 (x : J) : Bool := gB x kLayers 4 false (gB x kCsv 3 false (gB x kArchive 3 true false))
def srN5 (x : J) : Nat := gN x kAttr (gN x kKey (srN3 x))
def srB5 (x : J) : Bool := gB x kAttr 3 false (gB x kKey 3 false (srB3 x))
def srN6 (x : J) : Nat := gN x kOnly (srN5 x)
def srB6 (x : J) : Bool := gB x kOnly 4 false (srB5 x) || !(strsJ (gK x kOnly 4).list).2
def srN7 (x : J) : Nat := gN x kNot (srN6 x)
def srB7 (x : J) : Bool := gB x kNot 4 false (srB6 x) || !(strsJ (gK x kNot 4).list).2
def srN (x : J) : Nat := gN x kDrop (gN x kTexts (srN7 x))
def srB (x : J) : Bool := gB x kDrop 1 false (gB x kTexts 1 false (srB7 x))
def srcOfJ (x : J) (ls : List Fld) : SrcR := ⟨(gK x kArchive 3).text, ls, (gK x kCsv 3).text, (gK x kKey 3).text, (gK x kAttr 3).text, (strsJ (gK x kOnly 4).list).1, (strsJ (gK x kNot 4).list).1, (gK x kTexts 1).yes, (gK x kDrop 1).yes⟩
def srcPt (x : J) (ls : List Fld) : SrcR := ⟨(gK x kArchive 3).text, ls, (gK x kCsv 3).text, [], [], [], [], false, false⟩
def rdSrc (x : J) : SrcR × Bool := if (laysP (gK x kLayers 4).list).2 = true then (srcOfJ x (laysP (gK x kLayers 4).list).1, dnB x (srN x) (srB x)) else (srcPt x (laysP (gK x kLayers 4).list).1, false)
def srcRD (r : SrcR × Bool) : D := .tu [.ag (srcP r.1), .b r.2]
theorem zeZ (x : J) (ls : List Fld) : Weak (.tu [.ag [.s (gK x kArchive 3).text, .sl 2 ls.length (fldF ls), .s (gK x kCsv 3).text, .s [], .s [], .nilS, .nilS, .b false, .b false], .b false]) (srcRD (srcPt x ls, false)) := .tu2 (.ag _ _ rfl fun j hj => match j, hj with
  | 0, _ => .refl _
  | 1, _ => .refl _
  | 2, _ => .refl _
  | 3, _ => .refl _
  | 4, _ => .refl _
  | 5, _ => .nil 1 _
  | 6, _ => .nil 1 _
  | 7, _ => .refl _
  | 8, _ => .refl _) (.refl _)
theorem CtrO.weakR {P : Program} {f : FuncId} {args : List D} {ow ow' : Ow} {d d' : D} (h : CtrO P f args ow d ow') (hw : Weak d d') : CtrO P f args ow d' ow' := fun X vs h1 h2 h3 h4 h5 =>
  (h X vs h1 h2 h3 h4 h5).mono fun _ _ ⟨v, S', r', g1, g2, g3⟩ => ⟨v, S', r', g1, g2.weak hw, g3⟩
theorem zfl (x : J) (k : Txt) (n : Nat) : gN x k n ≤ n + 1 := by
  unfold gN
  split <;> omega
theorem zeQ {x : J} (h : goodJ x) (k : Txt) (kd : Int) : goodJ (gK x k kd) := by
  unfold gK
  split
  · exact zpL h k
  · exact zru
theorem zpK (l : List Fld) (p : Fld) (gf : Nat → List D) (hg : gf 0 = [.s p.1, .s p.2]) : catF l.length (fldF l) 1 gf = fldF (l ++ [p]) := by
  funext j
  unfold catF fldF
  by_cases h : j < l.length
  · rw [if_pos h]
    simp [List.getD_eq_getElem?_getD, List.getElem?_append_left h]
  · rw [if_neg h]
    by_cases h2 : j < l.length + 1
    · obtain rfl : j = l.length := by omega
      rw [if_pos h2, Nat.sub_self, hg]
      simp [List.getD_eq_getElem?_getD]
    · rw [if_neg h2]
      simp only [List.getD_eq_getElem?_getD]
      rw [List.getElem?_eq_none (show l.length ≤ j by omega), List.getElem?_eq_none (show (l ++ [p]).length ≤ j by simp; omega)]
set_option maxRecDepth 100000 in
set_option maxHeartbeats 16000000 in
theorem zoY (x : J) (hj : goodJ x) : Ctr Tryz.prog 54 [.ag (jP x)] (srcRD (rdSrc x)) := by
  have hw : jw x ≤ 4194304 := Nat.le_trans hj.1 (by decide)
  have hgw : ∀ k kd, jw (gK x k kd) ≤ 4194304 := fun k kd => Nat.le_trans (zeQ hj k kd).1 (by decide)
  have q1 := zfl x kArchive 0
  have q2 := zfl x kCsv (gN x kArchive 0)
  have q3 : srN3 x ≤ gN x kCsv (gN x kArchive 0) + 1 := zfl x kLayers _
  have cA := zdj x kArchive true 0 false hw (by omega)
  have cC := zdj x kCsv false (gN x kArchive 0) (gB x kArchive 3 true false) hw (by omega)
  have cL : CtrO Tryz.prog 53 [.pv 60 0, .s kLayers, .i .i64 4, .b false] (rdO x (gN x kCsv (gN x kArchive 0)) (gB x kCsv 3 false (gB x kArchive 3 true false))) (.ag (jP (gK x kLayers 4))) (rdO x (srN3 x) (srB3 x)) := zdt x kLayers 4 false (gN x kCsv (gN x kArchive 0)) (gB x kCsv 3 false (gB x kArchive 3 true false)) hw (by omega)
  replace cL := cL.weakR (zrE (gK x kLayers 4))
  have hjl := zgJ (gK x kLayers 4)
  have hjk := (zeQ hj kLayers 4).1
  unfold rdSrc
  refine zaE Tryz.func54 rfl Tryz.ntmps54 Tryz.results54 rfl (by split <;> rfl) fun X hL hX => ?_
  repeat' (first |refine zcQ (t := 15) 60 rfl rfl rfl rfl rfl ?_|refine T.pin 60 _ rfl hL ?_|with_reducible (first |refine zag ?_|refine zaa ?_|refine zaf ?_|refine zad ?_)|refine zab rfl rfl True.intro ?_|((first |refine zab rfl rfl ?_ ?_|refine zao rfl rfl ?_ ?_);focus (first |exact le_ rfl|((repeat' refine And.intro ?_ ?_)<;>omega)|((repeat' refine And.intro ?_ ?_)<;>first |rfl)))|fail)
  intro X' b hL' hX' hb
  have hX2 : X'.ids = [60] := by rw [hX', hX]
  repeat' (first |refine T.adoptV 8 1 105 46 2 _ (fldF []) rfl rfl rfl ?_|refine ztg hb rfl rfl ?_|refine zdg (f := 51) 60 (rdO x 0 false) (rdO x (gN x kArchive 0) (gB x kArchive 3 true false)) [60] [60] rfl rfl (by decide) (fun _ h => h) (fun k h1 h2 => absurd h1 h2) hb rfl rfl rfl Tryz.call51 ⟨rfl, trivial⟩ rfl rfl rfl rfl cA ?_|refine zdg (f := 51) 60 (rdO x (gN x kArchive 0) (gB x kArchive 3 true false)) (rdO x (gN x kCsv (gN x kArchive 0)) (gB x kCsv 3 false (gB x kArchive 3 true false))) [60] [60] rfl rfl (by decide) (fun _ h => h) (fun k h1 h2 => absurd h1 h2) hb rfl rfl rfl Tryz.call51 ⟨rfl, trivial⟩ rfl rfl rfl rfl cC ?_|refine zaq (f := 53) 60 rfl rfl Tryz.call53 rfl rfl rfl rfl rfl cL ?_|with_reducible (first |refine zag ?_|refine zaa ?_|refine zaf ?_|refine zad ?_|refine zae ?_)|refine zab rfl rfl True.intro ?_|((first |refine zab rfl rfl ?_ ?_|refine zao rfl rfl ?_ ?_|refine zaw rfl ?_ ?_);focus (first |exact le_ rfl|((repeat' refine And.intro ?_ ?_)<;>omega)|((repeat' refine And.intro ?_ ?_)<;>first |rfl|exact Nat.le_refl _)))|fail)
  clear cA cC cL
  generalize hLL : (gK x kLayers 4).list = L at *
  have hjL : jwL L ≤ 1000000 := by omega
  have hLen : L.length ≤ 1000000 := Nat.le_trans (zcH L) hjL
  refine T.loop hL' (fun z : Nat × List Fld => [(2, .pv 2 0), (4, .pv 60 0), (5, bnd 51 b), (6, bnd 85 b), (7, bnd 86 b), (8, .pv 8 0), (29, .sl 8 L.length (jG L)), (30, .i .i64 L.length), (31, .i .i64 z.1)])
    (fun z => [(2, .var [.s [], .nilS, .s [], .s [], .s [], .nilS, .nilS, .b false, .b false]), (8, .var [.s (gK x kArchive 3).text, .gs 105 2 z.2.length (fldF z.2), .s (gK x kCsv 3).text, .s [], .s [], .nilS, .nilS, .b false, .b false]), (60, .var (rdC x (srN3 x) (srB3 x))), (105, .row 46 2 z.2.length)])
    (fun z => z.1 ≤ L.length ∧ z.2.length = z.1 ∧ laysP L = (z.2 ++ (laysP (L.drop z.1)).1, (laysP (L.drop z.1)).2)) (fun z => L.length - z.1) (0, []) ⟨Nat.zero_le _, rfl, by simp⟩
    ⟨⟨rfl, rfl, rfl, rfl, rfl, rfl, rfl, rfl, rfl, trivial⟩, ⟨rfl, rfl, rfl, rfl, trivial⟩, rfl, by rw [hX2]; simp⟩ ?_
  rintro ⟨i, acc⟩ ⟨g1, g2, g3⟩
  dsimp only at g1 g2 g3 ⊢
  have hnat : (i : Int).toNat = i := Int.toNat_natCast i
  by_cases hil : i < L.length
  · have hil' : (i : Int) < L.length := by omega
    rw [zqr hil] at g3
    have hyw : jw (L.getD (i : Int).toNat j0) ≤ 4194304 := by
      have h2 := zof (l := L) (i := (i : Int).toNat) (by omega)
      omega
    have cS := zfd (L.getD (i : Int).toNat j0) hyw
    have hlr : layR (L.getD i j0) = layR (L.getD (i : Int).toNat j0) := by rw [hnat]
    rw [hlr] at g3
    clear hlr hyw
    unfold layR at g3
    generalize strsJ (L.getD (i : Int).toNat j0).list = r at cS g3
    obtain ⟨t, ok⟩ := r
    replace cS : Ctr Tryz.prog 87 [.ag (jP (L.getD (i : Int).toNat j0))] (.tu [.sl 1 t.length (txF t), .b ok]) := cS
    dsimp only at g3
    cases ok with
    | false =>
      rw [if_neg (fun h => by cases h.1)] at g3
      replace g3 : laysP L = (acc, false) := g3.trans (by simp)
      rw [g3, if_neg Bool.false_ne_true]
      repeat' (first |refine zai (f := 87) rfl rfl Tryz.call87 rfl cS ?_|with_reducible (first |refine zag ?_|refine zaa ?_|refine zaf ?_|refine zad ?_|refine zaj ?_|refine zah ?_|refine zae ?_|refine zam ?_|refine zar ?_)|refine zab rfl rfl True.intro ?_|refine zat rfl rfl rfl ?_|refine zav rfl ?_|((first |refine zac rfl ?_ ?_)<;>intro<;>try (first |(exfalso;omega)))|((first |refine zab rfl rfl ?_ ?_|refine zao rfl rfl ?_ ?_|refine zaw rfl ?_ ?_);focus (first |omega|exact le_ rfl|((repeat' refine And.intro ?_ ?_)<;>omega)|((repeat' refine And.intro ?_ ?_)<;>first |rfl|exact Nat.le_refl _)))|refine zbp rfl ?_|fail)
      all_goals exact zeZ x acc
    | true =>
    by_cases hk : (L.getD (i : Int).toNat j0).kind = 4
    rotate_left
    · rw [if_neg (fun h => hk h.2.1)] at g3
      replace g3 : laysP L = (acc, false) := g3.trans (by simp)
      rw [g3, if_neg Bool.false_ne_true]
      repeat' (first |refine zai (f := 87) rfl rfl Tryz.call87 rfl cS ?_|with_reducible (first |refine zag ?_|refine zaa ?_|refine zaf ?_|refine zad ?_|refine zaj ?_|refine zah ?_|refine zae ?_|refine zam ?_|refine zar ?_)|refine zab rfl rfl True.intro ?_|refine zat rfl rfl rfl ?_|refine zak rfl rfl rfl rfl True.intro ?_|refine zav rfl ?_|((first |refine zac rfl ?_ ?_|refine zaZ rfl rfl ?_ ?_|refine zaD rfl rfl ?_ ?_)<;>intro<;>try (first |(rename_i hz;exact tf_ hz)|(exfalso;omega)))|((first |refine zab rfl rfl ?_ ?_|refine zak rfl rfl rfl rfl ?_ ?_|refine zao rfl rfl ?_ ?_|refine zaw rfl ?_ ?_);focus (first |omega|exact le_ rfl|((repeat' refine And.intro ?_ ?_)<;>omega)|((repeat' refine And.intro ?_ ?_)<;>first |rfl|exact Nat.le_refl _)))|refine zbp rfl ?_|fail)
      all_goals exact zeZ x acc
    by_cases ht : t.length = 2
    rotate_left
    · rw [if_neg (fun h => ht h.2.2)] at g3
      replace g3 : laysP L = (acc, false) := g3.trans (by simp)
      have ht' : ¬ (t.length : Int) = 2 := by omega
      rw [g3, if_neg Bool.false_ne_true]
      repeat' (first |refine zai (f := 87) rfl rfl Tryz.call87 rfl cS ?_|with_reducible (first |refine zag ?_|refine zaa ?_|refine zaf ?_|refine zad ?_|refine zaj ?_|refine zah ?_|refine zae ?_|refine zam ?_|refine zar ?_)|refine zab rfl rfl True.intro ?_|refine zak rfl rfl rfl rfl True.intro ?_|((first |refine zac rfl ?_ ?_|refine zaC rfl ?_ ?_|refine zaZ rfl rfl ?_ ?_|refine zaD rfl rfl ?_ ?_)<;>intro<;>try (first |(rename_i hz;exact tf_ hz)|(exfalso;omega)))|((first |refine zab rfl rfl ?_ ?_|refine zak rfl rfl rfl rfl ?_ ?_|refine zao rfl rfl ?_ ?_|refine zaw rfl ?_ ?_);focus (first |omega|exact le_ rfl|((repeat' refine And.intro ?_ ?_)<;>omega)|((repeat' refine And.intro ?_ ?_)<;>first |rfl|exact Nat.le_refl _)))|refine zbp rfl ?_|fail)
      all_goals exact zeZ x acc
    rw [if_pos ⟨rfl, hk, ht⟩] at g3
    obtain ⟨u, v, rfl⟩ : ∃ u v, t = [u, v] := by
      match t, ht with
      | [u, v], _ => exact ⟨u, v, rfl⟩
    replace g3 : laysP L = ((acc ++ [(u, v)]) ++ (laysP (L.drop (i + 1))).1, (laysP (L.drop (i + 1))).2) := g3.trans (by simp)
    have e := zpK acc (u, v) (chunk 2 [.s u, .s v]) rfl
    have g4 : (acc ++ [(u, v)]).length = acc.length + 1 := by simp
    repeat' (first |refine zai (f := 87) rfl rfl Tryz.call87 rfl cS ?_|with_reducible (first |refine zag ?_|refine zaa ?_|refine zaf ?_|refine zad ?_|refine zah ?_|refine zae ?_|refine zap ?_|refine zaB ?_)|refine zab rfl rfl True.intro ?_|refine zak rfl rfl rfl rfl True.intro ?_|refine zal rfl ?_|((first |refine zac rfl ?_ ?_|refine zaZ rfl rfl ?_ ?_|refine zaD rfl rfl ?_ ?_)<;>intro<;>try (first |(rename_i hz;exact tf_ hz)|(exfalso;omega)))|((first |refine zab rfl rfl ?_ ?_|refine zak rfl rfl rfl rfl ?_ ?_|refine zao rfl rfl ?_ ?_|refine zaw rfl ?_ ?_);focus (first |omega|exact le_ rfl|((repeat' refine And.intro ?_ ?_)<;>omega)|((repeat' refine And.intro ?_ ?_)<;>first |omega|rfl|exact Nat.le_refl _|exact le_ rfl)))|with_reducible refine ⟨by kernel_rfl, ?_⟩|fail)
    all_goals exact ⟨(i + 1, acc ++ [(u, v)]), ⟨by dsimp only; omega, by dsimp only; omega, g3⟩, by dsimp only; omega, ⟨rfl, rfl, rfl, rfl, rfl, rfl, rfl, rfl, rfl, trivial⟩, ⟨rfl, by rw [g4, ← e]; rfl, rfl, by rw [g4]; rfl, trivial⟩, rfl, by rw [hX2]; simp⟩
  have hil' : ¬ (i : Int) < L.length := by omega
  have g5 : laysP L = (acc, true) := by
    rw [g3, List.drop_eq_nil_of_le (by omega)]
    show (acc ++ [], true) = _
    rw [List.append_nil]
  rw [g5, if_pos rfl]
  clear g3 g5 hLL
  have q4 := zfl x kKey (srN3 x)
  have q5 : srN5 x ≤ gN x kKey (srN3 x) + 1 := zfl x kAttr _
  have q6 : srN6 x ≤ srN5 x + 1 := zfl x kOnly _
  have q7 : srN7 x ≤ srN6 x + 1 := zfl x kNot _
  have q8 := zfl x kTexts (srN7 x)
  have cK := zdj x kKey false (srN3 x) (srB3 x) hw (by omega)
  have cA : CtrO Tryz.prog 51 [.pv 60 0, .s kAttr, .b false] (rdO x (gN x kKey (srN3 x)) (gB x kKey 3 false (srB3 x))) (.s (gK x kAttr 3).text) (rdO x (srN5 x) (srB5 x)) := zdj x kAttr false _ _ hw (by omega)
  have cO : CtrO Tryz.prog 86 [.pv 60 0, .s kOnly] (rdO x (srN5 x) (srB5 x)) (.sl 1 (strsJ (gK x kOnly 4).list).1.length (txF (strsJ (gK x kOnly 4).list).1)) (rdO x (srN6 x) (srB6 x)) := zjA x kOnly _ _ hw (by omega) (hgw _ _)
  have cN : CtrO Tryz.prog 86 [.pv 60 0, .s kNot] (rdO x (srN6 x) (srB6 x)) (.sl 1 (strsJ (gK x kNot 4).list).1.length (txF (strsJ (gK x kNot 4).list).1)) (rdO x (srN7 x) (srB7 x)) := zjA x kNot _ _ hw (by omega) (hgw _ _)
  have cT := zhb x kTexts (srN7 x) (srB7 x) hw (by omega)
  have cD : CtrO Tryz.prog 85 [.pv 60 0, .s kDrop] (rdO x (gN x kTexts (srN7 x)) (gB x kTexts 1 false (srB7 x))) (.b (gK x kDrop 1).yes) (rdO x (srN x) (srB x)) := zhb x kDrop _ _ hw (by omega)
  have cE := zjj x (srN x) (srB x) hw
  repeat' (first |refine zdg (f := 51) 60 (rdO x (srN3 x) (srB3 x)) (rdO x (gN x kKey (srN3 x)) (gB x kKey 3 false (srB3 x))) [60] [60] rfl rfl (by decide) (fun _ h => h) (fun k h1 h2 => absurd h1 h2) hb rfl rfl rfl Tryz.call51 ⟨rfl, trivial⟩ rfl rfl rfl rfl cK ?_|refine zdg (f := 51) 60 (rdO x (gN x kKey (srN3 x)) (gB x kKey 3 false (srB3 x))) (rdO x (srN5 x) (srB5 x)) [60] [60] rfl rfl (by decide) (fun _ h => h) (fun k h1 h2 => absurd h1 h2) hb rfl rfl rfl Tryz.call51 ⟨rfl, trivial⟩ rfl rfl rfl rfl cA ?_|refine zdg (f := 86) 60 (rdO x (srN5 x) (srB5 x)) (rdO x (srN6 x) (srB6 x)) [60] [60] rfl rfl (by decide) (fun _ h => h) (fun k h1 h2 => absurd h1 h2) hb rfl rfl rfl Tryz.call86 ⟨rfl, trivial⟩ rfl rfl rfl rfl cO ?_|refine zdg (f := 86) 60 (rdO x (srN6 x) (srB6 x)) (rdO x (srN7 x) (srB7 x)) [60] [60] rfl rfl (by decide) (fun _ h => h) (fun k h1 h2 => absurd h1 h2) hb rfl rfl rfl Tryz.call86 ⟨rfl, trivial⟩ rfl rfl rfl rfl cN ?_|refine zdg (f := 85) 60 (rdO x (srN7 x) (srB7 x)) (rdO x (gN x kTexts (srN7 x)) (gB x kTexts 1 false (srB7 x))) [60] [60] rfl rfl (by decide) (fun _ h => h) (fun k h1 h2 => absurd h1 h2) hb rfl rfl rfl Tryz.call85 ⟨rfl, trivial⟩ rfl rfl rfl rfl cT ?_|refine zdg (f := 85) 60 (rdO x (gN x kTexts (srN7 x)) (gB x kTexts 1 false (srB7 x))) (rdO x (srN x) (srB x)) [60] [60] rfl rfl (by decide) (fun _ h => h) (fun k h1 h2 => absurd h1 h2) hb rfl rfl rfl Tryz.call85 ⟨rfl, trivial⟩ rfl rfl rfl rfl cD ?_|refine znv (f := 55) (rdO x (srN x) (srB x)) [60] rfl (by decide) rfl rfl Tryz.call55 ⟨rfl, trivial⟩ rfl rfl rfl cE ?_|with_reducible (first |refine zag ?_|refine zaa ?_|refine zaf ?_|refine zad ?_|refine zaj ?_|refine zaA ?_|refine zaz ?_|refine zaB ?_)|refine zab rfl rfl True.intro ?_|((first |refine zac rfl ?_ ?_)<;>intro<;>try (first |(exfalso;omega)))|((first |refine zab rfl rfl ?_ ?_|refine zaw rfl ?_ ?_);focus (first |exact le_ rfl|((repeat' refine And.intro ?_ ?_)<;>omega)|((repeat' refine And.intro ?_ ?_)<;>first |rfl|exact Nat.le_refl _)))|refine zaO rfl ?_|with_reducible refine ⟨by kernel_rfl, ?_⟩|refine zbp rfl ?_|fail)
  all_goals exact .of_eq rfl

section
variable {c0 c1 c2 c3 c4 c5 c6 c7 : D} {q z : Int}
abbrev pObj (c0 c1 c2 c3 c4 c5 c6 c7 : D) (q z : Int) : Ow := [(2, .var [c0, c1, c2, c3, c4, c5, c6, c7]), (3, .var [.i .i64 q]), (4, .var [.i .i64 z])]
set_option maxRecDepth 100000 in
set_option maxHeartbeats 1000000 in
theorem zkP (p : Nat) (e : Int) : CtrD Tryz.prog 47 [.pv 2 0, .pv 3 0, .pv 4 0] (pObj c0 c1 c2 c3 c4 c5 c6 c7 q z) (.panicking (pchain (pvS p e)))
    [(2, .var j0C), (3, .var [.i .i64 p]), (4, .var [.i .i64 e])] (.panicking [{ v := pvS p e, recovered := true }]) := by
  refine CtrD.of_TS Tryz.func47 rfl Tryz.ntmps47 Tryz.results47 (by decide) rfl rfl rfl fun X c₀ cs hL hX hdf hu => ?_
  refine zgM ({ c₀ with mode := .panicking [{ v := pvS p e, recovered := true }] } :: cs) (pvS p e) rfl (by
    have h0 : recoverD (c₀ :: cs) = some (pvS p e, { c₀ with mode := .panicking [{ v := pvS p e, recovered := true }] } :: cs) := by
      simp only [recoverD, hu, pchain]
    rw [h0]
    exact ⟨rfl, rfl⟩) rfl ?_
  repeat' (first |refine zor Tryz.underlying83 rfl rfl ?_|refine zoz 60 rfl rfl rfl rfl rfl ?_|with_reducible (first |refine zaf ?_)|refine zab rfl rfl True.intro ?_|((first |refine zaw rfl ?_ ?_);focus (first |((repeat' refine And.intro ?_ ?_)<;>omega)|((repeat' refine And.intro ?_ ?_)<;>first |rfl|exact Nat.le_refl _)))|fail)
  refine zcK ?_
  repeat' (first |refine zkL ?_|with_reducible (first |refine zaa ?_|refine zaf ?_|refine zad ?_|refine zaB ?_)|refine zab rfl rfl True.intro ?_|refine zav rfl ?_|((first |refine zab rfl rfl ?_ ?_|refine zaw rfl ?_ ?_);focus (first |exact le_ rfl|((repeat' refine And.intro ?_ ?_)<;>omega)|((repeat' refine And.intro ?_ ?_)<;>first |rfl|exact Nat.le_refl _)))|with_reducible refine ⟨by kernel_rfl, ?_⟩|refine ztr ⟨?_⟩|fail)
  all_goals exact fun a w hr => ⟨.inl rfl, rfl, _, _, hr, rfl, rfl, rfl, trivial⟩
set_option maxRecDepth 100000 in
set_option maxHeartbeats 1000000 in
theorem zpi (k : Int) (y n : Bool) (d : List UInt8) (e : Int) (t : List UInt8) (l : List J) (ks : List (List UInt8)) : CtrD Tryz.prog 47 [.pv 2 0, .pv 3 0, .pv 4 0] (pObj (.i .i64 k) (.b y) (.b n) (.s d) (.i .i64 e) (.s t) (.sl 8 l.length (jF l)) (.sl 1 ks.length (txF ks)) q z) .returning (pObj (.i .i64 k) (.b y) (.b n) (.s d) (.i .i64 e) (.s t) (.sl 8 l.length (jF l)) (.sl 1 ks.length (txF ks)) q z) .returning := by
  refine CtrD.of_TS Tryz.func47 rfl Tryz.ntmps47 Tryz.results47 (by decide) rfl rfl rfl fun X c₀ cs hL hX hdf hu => ?_
  refine zgM (c₀ :: cs) .nilIface rfl (by
    have h0 : recoverD (c₀ :: cs) = none := by
      simp only [recoverD, hu]
    rw [h0]
    exact ⟨rfl, rfl⟩) rfl ?_
  repeat' (first |refine zok Tryz.underlying83 rfl rfl rfl ?_|refine zoz 60 rfl rfl rfl rfl rfl ?_|with_reducible (first |refine zaf ?_)|refine zab rfl rfl True.intro ?_|((first |refine zaw rfl ?_ ?_);focus (first |((repeat' refine And.intro ?_ ?_)<;>omega)|((repeat' refine And.intro ?_ ?_)<;>first |omega|rfl)))|fail)
  refine zcK ?_
  repeat' (first |refine zkL ?_|with_reducible (first |refine zaa ?_|refine zaf ?_|refine zad ?_|refine zah ?_)|refine zab rfl rfl True.intro ?_|refine zal rfl ?_|refine ztr ⟨?_⟩|fail)
  all_goals exact fun a w hr => ⟨.inl rfl, by
    cases c₀
    cases hu
    rfl, _, _, hr, rfl, rfl, rfl, trivial⟩
end
def parD (r : J × Nat × Int) : D := .tu [.ag (jC r.1), .i .i64 r.2.1, .i .i64 r.2.2]
theorem zfQ (p e : Int) : Weak (.tu [.ag j0C, .i .i64 p, .i .i64 e]) (.tu [.ag (jC j0), .i .i64 p, .i .i64 e]) := .tu3 (zdQ 0 false) (.refl _) (.refl _)
set_option maxRecDepth 100000 in
set_option maxHeartbeats 4000000 in
theorem zna (s : List UInt8) (hs : s.length ≤ 4194304) : Ctr Tryz.prog 25 [.s s] (parD (jparse s)) := by
  refine zte Tryz.func25 rfl Tryz.ntmps25 rfl fun X hL hX hdf hr0 => ?_
  have hfree : (parD (jparse s)).free = true := by
    unfold parD
    generalize jparse s = r
    obtain ⟨⟨k, y, n, d, e, t, l, ks⟩, p, c⟩ := r
    rw [zdT]
    rfl
  unfold jparse at *
  by_cases hb : 1048576 < s.length
  · rw [if_pos hb] at *
    repeat' (first |refine zcK ?_|with_reducible (first |refine zag ?_|refine zaa ?_|refine zaf ?_|refine zad ?_|refine zaj ?_|refine zam ?_)|refine zab rfl rfl True.intro ?_|((first |refine zac rfl ?_ ?_)<;>intro<;>try (first |(exfalso;omega)))|((first |refine zao rfl rfl ?_ ?_|refine zaw rfl ?_ ?_);focus (first |((repeat' refine And.intro ?_ ?_)<;>omega)|((repeat' refine And.intro ?_ ?_)<;>first |rfl|exact Nat.le_refl _)))|refine zts ⟨?_⟩|fail)
    · exact fun a w hr => znD hdf hr Tryz.results25 rfl (zfQ 0 5) hfree
  · rw [if_neg hb] at *
    have v1 := zlV s (by omega) 64 (by decide) 0 (Nat.zero_le _)
    have hvo := zcb s 64 0
    cases hv : jval s 64 0 with
    | inr e =>
      obtain ⟨p, e⟩ := e
      rw [hv] at v1 hfree
      repeat' (first |refine zhL [2, 3, 4] hdf hr0 rfl rfl ?_|refine zcK ?_|with_reducible (first |refine zag ?_|refine zaa ?_|refine zaf ?_|refine zad ?_|refine zah ?_)|refine zab rfl rfl True.intro ?_|((first |refine zac rfl ?_ ?_)<;>intro<;>try (first |(exfalso;omega)))|((first |refine zao rfl rfl ?_ ?_);focus (first |((repeat' refine And.intro ?_ ?_)<;>omega)|((repeat' refine And.intro ?_ ?_)<;>first |rfl)))|fail)
      intro X1 vs hput
      repeat' (first |refine zcK ?_|(refine zbB (id := 5) 1 ?_;dsimp only [splitOp])|refine zbl 13 rfl Tryz.call48 rfl rfl rfl rfl v1 ?_|with_reducible (first |refine zaa ?_|refine zaf ?_|refine zad ?_)|refine zab rfl rfl True.intro ?_|((first |refine zao rfl rfl ?_ ?_);focus (first |((repeat' refine And.intro ?_ ?_)<;>omega)|((repeat' refine And.intro ?_ ?_)<;>first |rfl)))|refine zaW ?_|refine ztV ⟨?_⟩|fail)
      exact fun a w hr => (zkj hput Tryz.call47 (zkP p e) (fun h => by cases h) rfl ⟨rfl, rfl, rfl, trivial⟩ rfl rfl (by decide) rfl rfl hr Tryz.results25 _ (zfr _ 2 3 4 _ _ _ (by decide) (by decide) (by decide)) rfl (zfQ p e) hfree)
    | inl r =>
      obtain ⟨x, m⟩ := r
      rw [hv] at v1 hfree
      obtain ⟨k, y, n, d, e, t, l, ks⟩ := x
      have v1' : CtrO Tryz.prog 48 [.pv 13 0, .i .i64 ((64 : Nat) : Int)] (rdr s 0) (.ag [.i .i64 k, .b y, .b n, .s d, .i .i64 e, .s t, .sl 8 l.length (jF l), .sl 1 ks.length (txF ks)]) (rdr s m) := by
        rw [← zdT]
        exact v1
      have hml : m ≤ s.length := (hvo _ _ (Nat.zero_le _) hv).2
      have s1 := ziy s m (by omega) hml
      have hsk := zfV hml
      clear v1 hvo hv
      dsimp only at hfree
      show TD _ _ _ _ _ _ (bodyPostD _ _ (Fin _ (parD (if skN s m < s.length then (j0, skN s m, 3) else (.mk k y n d e t l ks, s.length, 0)))))
      by_cases hq : skN s m < s.length
      · rw [if_pos hq] at hfree ⊢
        have f1 := zbn (skN s m) 3
        repeat' (first |refine zhL [2, 3, 4] hdf hr0 rfl rfl ?_|refine zcK ?_|with_reducible (first |refine zag ?_|refine zaa ?_|refine zaf ?_|refine zad ?_|refine zah ?_)|refine zab rfl rfl True.intro ?_|((first |refine zac rfl ?_ ?_)<;>intro<;>try (first |(exfalso;omega)))|((first |refine zao rfl rfl ?_ ?_);focus (first |((repeat' refine And.intro ?_ ?_)<;>omega)|((repeat' refine And.intro ?_ ?_)<;>first |rfl)))|fail)
        intro X1 vs hput
        repeat' (first |refine zcK ?_|(refine zbB (id := 8) 4 ?_;dsimp only [splitOp])|refine zaq (f := 48) 13 rfl rfl Tryz.call48 rfl rfl rfl rfl rfl v1' ?_|refine zaq (f := 49) 13 rfl rfl Tryz.call49 rfl rfl rfl rfl rfl s1 ?_|refine zdb rfl Tryz.call50 rfl f1 ?_|with_reducible (first |refine zag ?_|refine zaa ?_|refine zaf ?_|refine zad ?_)|refine zab rfl rfl True.intro ?_|((first |refine zac rfl ?_ ?_)<;>intro<;>try (first |(exfalso;omega)))|((first |refine zab rfl rfl ?_ ?_|refine zao rfl rfl ?_ ?_|refine zaw rfl ?_ ?_);focus (first |exact le_ rfl|((repeat' refine And.intro ?_ ?_)<;>omega)|((repeat' refine And.intro ?_ ?_)<;>first |rfl|exact Nat.le_refl _)))|refine zaW ?_|refine ztV ⟨?_⟩|fail)
        exact fun a w hr => (zkj hput Tryz.call47 (zkP (skN s m) 3) (fun h => by cases h) rfl ⟨rfl, rfl, rfl, trivial⟩ rfl rfl (by decide) rfl rfl hr Tryz.results25 _ (zfr _ 2 3 4 _ _ _ (by decide) (by decide) (by decide)) rfl (zfQ (skN s m) 3) hfree)
      · rw [if_neg hq] at hfree ⊢
        unfold parD at hfree ⊢
        dsimp only at hfree ⊢
        rw [zdT] at hfree ⊢
        repeat' (first |refine zhL [2, 3, 4] hdf hr0 rfl rfl ?_|refine zcK ?_|with_reducible (first |refine zag ?_|refine zaa ?_|refine zaf ?_|refine zad ?_|refine zah ?_)|refine zab rfl rfl True.intro ?_|((first |refine zac rfl ?_ ?_)<;>intro<;>try (first |(exfalso;omega)))|((first |refine zao rfl rfl ?_ ?_);focus (first |((repeat' refine And.intro ?_ ?_)<;>omega)|((repeat' refine And.intro ?_ ?_)<;>first |rfl)))|fail)
        intro X1 vs hput
        repeat' (first |refine zcK ?_|refine zkL ?_|refine zaq (f := 48) 13 rfl rfl Tryz.call48 rfl rfl rfl rfl rfl v1' ?_|refine zaq (f := 49) 13 rfl rfl Tryz.call49 rfl rfl rfl rfl rfl s1 ?_|with_reducible (first |refine zag ?_|refine zaa ?_|refine zaf ?_|refine zad ?_|refine zaj ?_|refine zah ?_)|refine zab rfl rfl True.intro ?_|((first |refine zac rfl ?_ ?_)<;>intro<;>try (first |(exfalso;omega)))|((first |refine zab rfl rfl ?_ ?_|refine zao rfl rfl ?_ ?_|refine zaw rfl ?_ ?_);focus (first |exact le_ rfl|((repeat' refine And.intro ?_ ?_)<;>omega)|((repeat' refine And.intro ?_ ?_)<;>first |rfl|exact Nat.le_refl _)))|refine zts ⟨?_⟩|fail)
        exact fun a w hr => (zkj hput Tryz.call47 (zpi k y n d e t l ks) (fun h => by cases h) rfl ⟨rfl, rfl, rfl, trivial⟩ rfl rfl (by decide) rfl rfl hr Tryz.results25 _ (zfr _ 2 3 4 _ _ _ (by decide) (by decide) (by decide)) rfl (.refl _) hfree)

def srcsP : List J → List SrcR × Bool
  | [] => ([], true)
  | y :: r => if (rdSrc y).2 = true then ((rdSrc y).1 :: (srcsP r).1, (srcsP r).2) else ([], false)
theorem zqy {l : List J} {i : Nat} (h : i < l.length) : srcsP (l.drop i) = if (rdSrc (l.getD i j0)).2 = true then ((rdSrc (l.getD i j0)).1 :: (srcsP (l.drop (i + 1))).1, (srcsP (l.drop (i + 1))).2) else ([], false) := by
  rw [List.drop_eq_getElem_cons h]
  rw [show l.getD i j0 = l[i] by simp [List.getD_eq_getElem?_getD, h]]
  rfl
def cmN1 (x : J) : Nat := gN x kId 0
def cmB1 (x : J) : Bool := gB x kId 3 true false
def cmN2 (x : J) : Nat := gN x kBuffer (cmN1 x)
def cmB2 (x : J) : Bool := gB x kBuffer 2 true (cmB1 x) || !(whJ (gK x kBuffer 2)).2
def cmN3 (x : J) : Nat := gN x kMaxzoom (cmN2 x)
def cmB3 (x : J) : Bool := gB x kMaxzoom 2 true (cmB2 x) || !(whJ (gK x kMaxzoom 2)).2
def cmN4 (x : J) : Nat := gN x kLimit (cmN3 x)
def cmB4 (x : J) : Bool := gB x kLimit 2 true (cmB3 x) || !(whJ (gK x kLimit 2)).2
def cmN (x : J) : Nat := gN x kSources (cmN4 x)
def cmB (x : J) : Bool := gB x kSources 4 true (cmB4 x)
def cmpOfJ (x : J) (ss : List SrcR) : CmpR := ⟨(gK x kId 3).text, ss, (whJ (gK x kBuffer 2)).1, (whJ (gK x kMaxzoom 2)).1, (whJ (gK x kLimit 2)).1⟩
def rdCmp (x : J) : CmpR × Bool := (cmpOfJ x (srcsP (gK x kSources 4).list).1, (srcsP (gK x kSources 4).list).2 && dnB x (cmN x) (cmB x))
def cmpRD (r : CmpR × Bool) : D := .tu [.ag (cmpP r.1), .b r.2]
theorem zqw (l : List SrcR) (p : SrcR) (gf : Nat → List D) (hg : gf 0 = srcP p) : catF l.length (srcF l) 1 gf = srcF (l ++ [p]) := by
  funext j
  unfold catF srcF
  by_cases h : j < l.length
  · rw [if_pos h]
    simp [List.getD_eq_getElem?_getD, List.getElem?_append_left h]
  · rw [if_neg h]
    by_cases h2 : j < l.length + 1
    · obtain rfl : j = l.length := by omega
      rw [if_pos h2, Nat.sub_self, hg]
      simp [List.getD_eq_getElem?_getD]
    · rw [if_neg h2]
      simp only [List.getD_eq_getElem?_getD]
      rw [List.getElem?_eq_none (show l.length ≤ j by omega), List.getElem?_eq_none (show (l ++ [p]).length ≤ j by simp; omega)]
set_option maxRecDepth 100000 in
set_option maxHeartbeats 16000000 in
theorem zoS (x : J) (hj : goodJ x) : Ctr Tryz.prog 26 [.ag (jP x)] (cmpRD (rdCmp x)) := by
  have hw : jw x ≤ 4194304 := Nat.le_trans hj.1 (by decide)
  have hgd : ∀ k kd, (gK x k kd).dig.length ≤ 1048576 := fun k kd => Nat.le_trans (zfA (zeQ hj k kd).2).2.1.2 (by decide)
  have q1 : cmN1 x ≤ 0 + 1 := zfl x kId 0
  have q2 : cmN2 x ≤ cmN1 x + 1 := zfl x kBuffer _
  have q3 : cmN3 x ≤ cmN2 x + 1 := zfl x kMaxzoom _
  have q4 : cmN4 x ≤ cmN3 x + 1 := zfl x kLimit _
  have cI : CtrO Tryz.prog 51 [.pv 60 0, .s kId, .b true] (rdO x 0 false) (.s (gK x kId 3).text) (rdO x (cmN1 x) (cmB1 x)) := zdj x kId true 0 false hw (by omega)
  have cU : CtrO Tryz.prog 52 [.pv 60 0, .s kBuffer] (rdO x (cmN1 x) (cmB1 x)) (.i .i64 (whJ (gK x kBuffer 2)).1) (rdO x (cmN2 x) (cmB2 x)) := zeR x kBuffer _ _ hw (by omega) (hgd _ _)
  have cM : CtrO Tryz.prog 52 [.pv 60 0, .s kMaxzoom] (rdO x (cmN2 x) (cmB2 x)) (.i .i64 (whJ (gK x kMaxzoom 2)).1) (rdO x (cmN3 x) (cmB3 x)) := zeR x kMaxzoom _ _ hw (by omega) (hgd _ _)
  have cT : CtrO Tryz.prog 52 [.pv 60 0, .s kLimit] (rdO x (cmN3 x) (cmB3 x)) (.i .i64 (whJ (gK x kLimit 2)).1) (rdO x (cmN4 x) (cmB4 x)) := zeR x kLimit _ _ hw (by omega) (hgd _ _)
  have cL : CtrO Tryz.prog 53 [.pv 60 0, .s kSources, .i .i64 4, .b true] (rdO x (cmN4 x) (cmB4 x)) (.ag (jP (gK x kSources 4))) (rdO x (cmN x) (cmB x)) := zdt x kSources 4 true _ _ hw (by omega)
  replace cL := cL.weakR (zrE (gK x kSources 4))
  have cE := zjj x (cmN x) (cmB x) hw
  have hgS := zeQ hj kSources 4
  have hjl := zgJ (gK x kSources 4)
  have hjk := hgS.1
  have hgA : ∀ i, i < (gK x kSources 4).list.length → goodJ ((gK x kSources 4).list.getD i j0) := fun i hi => zhK hgS hi
  clear hgS
  unfold rdCmp
  refine zaE Tryz.func26 rfl Tryz.ntmps26 Tryz.results26 rfl rfl fun X hL hX => ?_
  repeat' (first |refine zcQ (t := 12) 60 rfl rfl rfl rfl rfl ?_|refine T.adoptV 5 1 105 45 9 _ (srcF []) rfl rfl rfl ?_|refine zaq (f := 51) 60 rfl rfl Tryz.call51 rfl rfl rfl rfl rfl cI ?_|refine zaq (f := 52) 60 rfl rfl Tryz.call52 rfl rfl rfl rfl rfl cU ?_|refine zaq (f := 52) 60 rfl rfl Tryz.call52 rfl rfl rfl rfl rfl cM ?_|refine zaq (f := 52) 60 rfl rfl Tryz.call52 rfl rfl rfl rfl rfl cT ?_|refine zaq (f := 53) 60 rfl rfl Tryz.call53 rfl rfl rfl rfl rfl cL ?_|with_reducible (first |refine zag ?_|refine zaa ?_|refine zaf ?_|refine zad ?_|refine zae ?_)|refine zab rfl rfl True.intro ?_|((first |refine zab rfl rfl ?_ ?_|refine zao rfl rfl ?_ ?_|refine zaw rfl ?_ ?_);focus (first |exact le_ rfl|((repeat' refine And.intro ?_ ?_)<;>omega)|((repeat' refine And.intro ?_ ?_)<;>first |rfl|exact Nat.le_refl _)))|fail)
  clear cI cU cM cT cL
  generalize hLL : (gK x kSources 4).list = L at *
  have hLen : L.length ≤ 1000000 := Nat.le_trans (zcH L) (by omega)
  refine T.loop hL (fun z : Nat × List SrcR => [(2, .pv 2 0), (4, .pv 60 0), (5, .pv 5 0), (24, .sl 8 L.length (jG L)), (25, .i .i64 L.length), (26, .i .i64 z.1)])
    (fun z => [(2, .var [.s [], .nilS, .i .i64 0, .i .i64 0, .i .i64 0]), (5, .var [.s (gK x kId 3).text, .gs 105 9 z.2.length (srcF z.2), .i .i64 (whJ (gK x kBuffer 2)).1, .i .i64 (whJ (gK x kMaxzoom 2)).1, .i .i64 (whJ (gK x kLimit 2)).1]), (60, .var (rdC x (cmN x) (cmB x))), (105, .row 45 9 z.2.length)])
    (fun z => z.1 ≤ L.length ∧ z.2.length = z.1 ∧ srcsP L = (z.2 ++ (srcsP (L.drop z.1)).1, (srcsP (L.drop z.1)).2)) (fun z => L.length - z.1) (0, []) ⟨Nat.zero_le _, rfl, by simp⟩
    ⟨⟨rfl, rfl, rfl, rfl, rfl, rfl, trivial⟩, ⟨rfl, rfl, rfl, rfl, trivial⟩, rfl, by rw [hX]; simp⟩ ?_
  rintro ⟨i, acc⟩ ⟨g1, g2, g3⟩
  dsimp only at g1 g2 g3 ⊢
  have hnat : (i : Int).toNat = i := Int.toNat_natCast i
  by_cases hil : i < L.length
  · have hil' : (i : Int) < L.length := by omega
    rw [zqy hil] at g3
    have cS := zoY (L.getD (i : Int).toNat j0) (hgA _ (by omega))
    have hlr : rdSrc (L.getD i j0) = rdSrc (L.getD (i : Int).toNat j0) := by rw [hnat]
    rw [hlr] at g3
    clear hlr
    generalize rdSrc (L.getD (i : Int).toNat j0) = r at cS g3
    obtain ⟨s, ok⟩ := r
    replace cS : Ctr Tryz.prog 54 [.ag (jP (L.getD (i : Int).toNat j0))] (.tu [.ag (srcP s), .b ok]) := cS
    cases ok with
    | false =>
      rw [if_neg (fun h => by cases h)] at g3
      replace g3 : srcsP L = (acc, false) := g3.trans (by simp)
      rw [g3]
      repeat' (first |refine zai (f := 54) rfl rfl Tryz.call54 rfl cS ?_|with_reducible (first |refine zag ?_|refine zaa ?_|refine zaf ?_|refine zad ?_|refine zaj ?_|refine zah ?_|refine zae ?_|refine zam ?_|refine zar ?_)|refine zab rfl rfl True.intro ?_|refine zav rfl ?_|((first |refine zac rfl ?_ ?_)<;>intro<;>try (first |(exfalso;omega)))|((first |refine zab rfl rfl ?_ ?_|refine zao rfl rfl ?_ ?_|refine zaw rfl ?_ ?_);focus (first |omega|exact le_ rfl|((repeat' refine And.intro ?_ ?_)<;>omega)|((repeat' refine And.intro ?_ ?_)<;>first |rfl|exact Nat.le_refl _)))|refine zbp rfl ?_|fail)
      all_goals exact .of_eq rfl
    | true =>
      rw [if_pos rfl] at g3
      replace g3 : srcsP L = ((acc ++ [s]) ++ (srcsP (L.drop (i + 1))).1, (srcsP (L.drop (i + 1))).2) := g3.trans (by simp)
      have e := zqw acc s (chunk 9 (srcP s)) rfl
      have g4 : (acc ++ [s]).length = acc.length + 1 := by simp
      repeat' (first |refine zai (f := 54) rfl rfl Tryz.call54 rfl cS ?_|with_reducible (first |refine zag ?_|refine zaa ?_|refine zaf ?_|refine zad ?_|refine zah ?_|refine zae ?_|refine zap ?_)|refine zab rfl rfl True.intro ?_|refine zal rfl ?_|((first |refine zac rfl ?_ ?_)<;>intro<;>try (first |(exfalso;omega)))|((first |refine zab rfl rfl ?_ ?_|refine zao rfl rfl ?_ ?_|refine zaw rfl ?_ ?_);focus (first |omega|exact le_ rfl|((repeat' refine And.intro ?_ ?_)<;>omega)|((repeat' refine And.intro ?_ ?_)<;>first |omega|rfl|exact Nat.le_refl _|exact le_ rfl)))|fail)
      all_goals exact ⟨(i + 1, acc ++ [s]), ⟨by dsimp only; omega, by dsimp only; omega, g3⟩, by dsimp only; omega, ⟨rfl, rfl, rfl, rfl, rfl, rfl, trivial⟩, ⟨rfl, by rw [g4, ← e]; rfl, rfl, by rw [g4]; rfl, trivial⟩, rfl, by rw [hX]; simp⟩
  have hil' : ¬ (i : Int) < L.length := by omega
  have g5 : srcsP L = (acc, true) := by
    rw [g3, List.drop_eq_nil_of_le (by omega)]
    show (acc ++ [], true) = _
    rw [List.append_nil]
  rw [g5]
  clear g3 g5 hLL
  repeat' (first |refine znv (f := 55) (rdO x (cmN x) (cmB x)) [60] rfl (by decide) rfl rfl Tryz.call55 ⟨rfl, trivial⟩ rfl rfl rfl cE ?_|with_reducible (first |refine zag ?_|refine zaa ?_|refine zaf ?_|refine zad ?_|refine zaj ?_|refine zaA ?_|refine zaz ?_|refine zaB ?_)|refine zab rfl rfl True.intro ?_|((first |refine zac rfl ?_ ?_)<;>intro<;>try (first |(exfalso;omega)))|((first |refine zab rfl rfl ?_ ?_|refine zaw rfl ?_ ?_);focus (first |exact le_ rfl|((repeat' refine And.intro ?_ ?_)<;>omega)|((repeat' refine And.intro ?_ ?_)<;>first |rfl|exact Nat.le_refl _)))|refine zaO rfl ?_|with_reducible refine ⟨by kernel_rfl, ?_⟩|refine zbp rfl ?_|fail)
  all_goals exact .of_eq rfl

def liveS : SrcR := ⟨[120], [], [], [], [], [], [], false, false⟩
def liveC : CmpR := ⟨[97], [liveS], 0, 3, 0⟩
def liveJ : J := listJ [mapJ [txJ [97], listJ [mapJ [txJ [120]] [kArchive]], .mk 2 false false [] 0 [] [] [], .mk 2 false false [51] 0 [] [] [], .mk 2 false false [] 0 [] [] []] [kId, kSources, kBuffer, kMaxzoom, kLimit]]
theorem zoW : ofF 3 0 = (false, [51], 0) := by
  have e : Lib.decDigits 3 = [51] := by rw [Lib.decDigits, dif_pos (by decide)]; rfl
  unfold ofF
  rw [if_neg (by omega), show (3 : Int).natAbs = 3 from rfl, e]
  decide
theorem zgS : confJ [liveC] = liveJ := by
  show listJ [mapJ [txJ [97], listJ [srcJ liveS], numJ 0, numJ 3, numJ 0] [kId, kSources, kBuffer, kMaxzoom, kLimit]] = _
  unfold numJ
  rw [zic, zoW]
  rfl
theorem zmL : rightJ 64 liveJ = true := by decide +kernel
theorem zrT : okL [liveC] := by
  have e : decide (okL [liveC]) = true := by decide +kernel
  exact of_decide_eq_true e
theorem znp : textJ liveJ = [91, 123, 34, 105, 100, 34, 58, 34, 97, 34, 44, 34, 115, 111, 117, 114, 99, 101, 115, 34, 58, 91, 123, 34, 97, 114, 99, 104, 105, 118, 101, 34, 58, 34, 120, 34] ++ [125, 93, 44, 34, 98, 117, 102, 102, 101, 114, 34, 58, 48, 44, 34, 109, 97, 120, 122, 111, 111, 109, 34, 58, 51, 44, 34, 108, 105, 109, 105, 116, 34, 58, 48, 125, 93] := by decide +kernel
theorem zsN : jb liveJ ≤ 1000000 := by decide +kernel
theorem zmG : textC [liveC] = [91, 123, 34, 105, 100, 34, 58, 34, 97, 34, 44, 34, 115, 111, 117, 114, 99, 101, 115, 34, 58, 91, 123, 34, 97, 114, 99, 104, 105, 118, 101, 34, 58, 34, 120, 34] ++ [125, 93, 44, 34, 98, 117, 102, 102, 101, 114, 34, 58, 48, 44, 34, 109, 97, 120, 122, 111, 111, 109, 34, 58, 51, 44, 34, 108, 105, 109, 105, 116, 34, 58, 48, 125, 93] := by
  unfold textC
  rw [if_pos zrT, zgS, if_pos zmL, znp]
theorem zlY : Weak (.sl 9 1 (chunk 9 [.s [120], .nilS, .s [], .s [], .s [], .nilS, .nilS, .b false, .b false])) (.sl 9 1 (srcF [liveS])) := .sl _ _ _ _ (fun i hi => match i, hi with
    | 0, _ => ⟨rfl, rfl⟩) fun i j hi hj => match i, j, hi, hj with
    | 0, 0, _, _ => .refl _
    | 0, 1, _, _ => .nil 2 _
    | 0, 2, _, _ => .refl _
    | 0, 3, _, _ => .refl _
    | 0, 4, _, _ => .refl _
    | 0, 5, _, _ => .nil 1 _
    | 0, 6, _, _ => .nil 1 _
    | 0, 7, _, _ => .refl _
    | 0, 8, _, _ => .refl _
theorem zmt : Weak (.sl 5 1 (chunk 5 [.s [97], .sl 9 1 (chunk 9 [.s [120], .nilS, .s [], .s [], .s [], .nilS, .nilS, .b false, .b false]), .i .i64 0, .i .i64 3, .i .i64 0])) (.sl 5 1 (cmpF [liveC])) := .sl _ _ _ _ (fun i hi => match i, hi with
    | 0, _ => ⟨rfl, rfl⟩) fun i j hi hj => match i, j, hi, hj with
    | 0, 0, _, _ => .refl _
    | 0, 1, _, _ => zlY
    | 0, 2, _, _ => .refl _
    | 0, 3, _, _ => .refl _
    | 0, 4, _, _ => .refl _
theorem zfy {α : Type} {p : α → Prop} {a d : α} (h1 : p a) (h2 : p d) (i : Nat) : p ([a].getD i d) := match i with
  | 0 => h1
  | _ + 1 => h2
theorem fitS0 : fitS s0R := ⟨Nat.zero_le _, Nat.zero_le _, Nat.zero_le _⟩
theorem bigT0 : bigT [] := Nat.zero_le _
theorem getNil {α : Type} {d : α} (i : Nat) : ([] : List α).getD i d = d := by simp [List.getD_eq_getElem?_getD]
theorem bigS0 : bigS s0R := ⟨bigT0, bigT0, bigT0, bigT0, fun i => by show bigT (([] : List Txt).getD i []); rw [getNil]; exact bigT0, fun i => by show bigT (([] : List Txt).getD i []); rw [getNil]; exact bigT0, fun i => by show bigT (([] : List Fld).getD i ([], [])).1 ∧ bigT (([] : List Fld).getD i ([], [])).2; rw [getNil]; exact ⟨bigT0, bigT0⟩⟩
theorem fitC0 : fitC c0R := ⟨Nat.zero_le _, fun i => by show fitS (([] : List SrcR).getD i s0R); rw [getNil]; exact fitS0⟩
theorem bigC0 : bigC c0R := ⟨bigT0, fun i => by show bigS (([] : List SrcR).getD i s0R); rw [getNil]; exact bigS0⟩
theorem zqR : fitL [liveC] := ⟨by decide, zfy ⟨by decide, zfy ⟨by decide, by decide, by decide⟩ fitS0⟩ fitC0⟩
theorem zqN : ∀ i, bigC ([liveC].getD i c0R) := zfy ⟨(by show List.length [97] ≤ 1048576; decide), zfy ⟨(by show List.length [120] ≤ 1048576; decide), bigT0, bigT0, bigT0, fun i => by show bigT (([] : List Txt).getD i []); rw [getNil]; exact bigT0, fun i => by show bigT (([] : List Txt).getD i []); rw [getNil]; exact bigT0, fun i => by show bigT (([] : List Fld).getD i ([], [])).1 ∧ bigT (([] : List Fld).getD i ([], [])).2; rw [getNil]; exact ⟨bigT0, bigT0⟩⟩ bigS0⟩ bigC0
set_option maxRecDepth 100000 in
set_option maxHeartbeats 2000000 in
theorem znB : Ctr Tryz.prog 7 [] (.b true) := by
  have c := (ziD [liveC] zqR zqN (fun _ => by rw [zgS]; exact zsN)).weak1 zmt
  rw [zmG] at c
  refine zaE Tryz.func7 rfl Tryz.ntmps7 Tryz.results7 rfl rfl fun X hL hX => ?_
  repeat' (first |refine zai (f := 16) rfl rfl Tryz.call16 rfl c ?_|with_reducible (first |refine zag ?_|refine zaa ?_|refine zaf ?_|refine zad ?_|refine zaj ?_)|refine zab rfl rfl True.intro ?_|((first |refine zao rfl rfl ?_ ?_);focus (first |((repeat' refine And.intro ?_ ?_)<;>omega)|((repeat' refine And.intro ?_ ?_)<;>first |omega|rfl)))|refine zau rfl ?_|fail)
  all_goals rfl

theorem zck {α : Type} {p : α → Prop} {d : α} {l : List α} (h : ∀ a ∈ l, p a) (hd : p d) (i : Nat) : p (l.getD i d) := by
  by_cases hi : i < l.length
  · rw [show l.getD i d = l[i] by simp [List.getD_eq_getElem?_getD, hi]]
    exact h _ (List.getElem_mem hi)
  · rw [List.getD_eq_getElem?_getD, List.getElem?_eq_none (by omega)]
    exact hd
theorem zcR {x : J} (h : goodJ x) : ∀ y ∈ x.list, goodJ y := fun y hy => by
  obtain ⟨i, hi, rfl⟩ := List.mem_iff_getElem.1 hy
  have := zhK h hi
  rwa [show x.list.getD i j0 = x.list[i] by simp [List.getD_eq_getElem?_getD, hi]] at this
theorem zen {x : J} (h : goodJ x) : x.list.length ≤ 1000000 := by
  have h1 := zcH x.list
  have h2 := zgJ x
  have h3 := h.1
  omega
theorem zbP {x : J} (h : goodJ x) : bigT x.text := Nat.le_trans (zfA h.2).2.1.1 (by decide)
theorem zlH (l : List J) : (strsJ l).1.length ≤ l.length := by
  unfold strsJ
  split
  · simp
  · exact Nat.zero_le _
theorem zfu {l : List J} (h : ∀ y ∈ l, goodJ y) : ∀ t ∈ (strsJ l).1, bigT t := by
  unfold strsJ
  split
  · intro t ht
    obtain ⟨y, hy, rfl⟩ := List.mem_map.1 ht
    exact zbP (h y hy)
  · intro t ht
    cases ht
theorem zjL : ∀ l : List J, (laysP l).1.length ≤ l.length
  | [] => Nat.le_refl _
  | y :: r => by
    have := zjL r
    rw [laysP]
    cases layR y with
    | none => exact Nat.zero_le _
    | some p =>
      show (p :: (laysP r).1).length ≤ _
      simp only [List.length_cons]
      omega
theorem zqD {y : J} (h : goodJ y) {p : Fld} (hp : layR y = some p) : bigT p.1 ∧ bigT p.2 := by
  unfold layR at hp
  split at hp
  · cases hp
    exact ⟨zck (zfu (zcR h)) bigT0 0, zck (zfu (zcR h)) bigT0 1⟩
  · cases hp
theorem zjG : ∀ {l : List J}, (∀ y ∈ l, goodJ y) → ∀ p ∈ (laysP l).1, bigT p.1 ∧ bigT p.2
  | [], _, _, h => by cases h
  | y :: r, h, p, hp => by
    rw [laysP] at hp
    cases hq : layR y with
    | none =>
      rw [hq] at hp
      cases hp
    | some q =>
      rw [hq] at hp
      rcases List.mem_cons.1 hp with rfl | hp
      · exact zqD (h y List.mem_cons_self) hq
      · exact zjG (fun z hz => h z (List.mem_cons_of_mem _ hz)) p hp
theorem zoB {x : J} (h : goodJ x) : fitS (rdSrc x).1 ∧ bigS (rdSrc x).1 := by
  have g := fun k kd => zeQ h k kd
  have l1 := zjL (gK x kLayers 4).list
  have l2 := zen (g kLayers 4)
  have l3 := zlH (gK x kOnly 4).list
  have l4 := zen (g kOnly 4)
  have l5 := zlH (gK x kNot 4).list
  have l6 := zen (g kNot 4)
  have b1 := zjG (zcR (g kLayers 4))
  have b2 := zfu (zcR (g kOnly 4))
  have b3 := zfu (zcR (g kNot 4))
  unfold rdSrc
  split
  · exact ⟨⟨Nat.le_trans l1 l2, Nat.le_trans l3 l4, Nat.le_trans l5 l6⟩, zbP (g kArchive 3), zbP (g kCsv 3), zbP (g kKey 3), zbP (g kAttr 3), zck b2 bigT0, zck b3 bigT0, zck (p := fun p : Fld => bigT p.1 ∧ bigT p.2) b1 ⟨bigT0, bigT0⟩⟩
  · exact ⟨⟨Nat.le_trans l1 l2, Nat.zero_le _, Nat.zero_le _⟩, zbP (g kArchive 3), zbP (g kCsv 3), bigT0, bigT0, fun i => by show bigT (([] : List Txt).getD i []); rw [getNil]; exact bigT0, fun i => by show bigT (([] : List Txt).getD i []); rw [getNil]; exact bigT0, zck (p := fun p : Fld => bigT p.1 ∧ bigT p.2) b1 ⟨bigT0, bigT0⟩⟩
theorem zjq : ∀ l : List J, (srcsP l).1.length ≤ l.length
  | [] => Nat.le_refl _
  | y :: r => by
    have := zjq r
    rw [srcsP]
    split
    · show ((rdSrc y).1 :: (srcsP r).1).length ≤ _
      simp only [List.length_cons]
      omega
    · exact Nat.zero_le _
theorem ziH : ∀ {l : List J}, (∀ y ∈ l, goodJ y) → ∀ s ∈ (srcsP l).1, fitS s ∧ bigS s
  | [], _, _, h => by cases h
  | y :: r, h, s, hs => by
    rw [srcsP] at hs
    split at hs
    · rcases List.mem_cons.1 hs with rfl | hs
      · exact zoB (h y List.mem_cons_self)
      · exact ziH (fun z hz => h z (List.mem_cons_of_mem _ hz)) s hs
    · cases hs
theorem zoj {x : J} (h : goodJ x) : fitC (rdCmp x).1 ∧ bigC (rdCmp x).1 := by
  have g := fun k kd => zeQ h k kd
  have l1 := zjq (gK x kSources 4).list
  have l2 := zen (g kSources 4)
  have f := ziH (zcR (g kSources 4))
  have f2 := zck (p := fun s => fitS s ∧ bigS s) f ⟨fitS0, bigS0⟩
  exact ⟨⟨Nat.le_trans (Nat.le_trans l1 l2) (by decide), fun i => (f2 i).1⟩, zbP (g kId 3), fun i => (f2 i).2⟩
def cmpsP : List J → List CmpR × Bool
  | [] => ([], true)
  | y :: r => if (rdCmp y).2 = true then ((rdCmp y).1 :: (cmpsP r).1, (cmpsP r).2) else ([], false)
theorem zqQ {l : List J} {i : Nat} (h : i < l.length) : cmpsP (l.drop i) = if (rdCmp (l.getD i j0)).2 = true then ((rdCmp (l.getD i j0)).1 :: (cmpsP (l.drop (i + 1))).1, (cmpsP (l.drop (i + 1))).2) else ([], false) := by
  rw [List.drop_eq_getElem_cons h]
  rw [show l.getD i j0 = l[i] by simp [List.getD_eq_getElem?_getD, h]]
  rfl
theorem ziO : ∀ {l : List J}, (∀ y ∈ l, goodJ y) → ∀ s ∈ (cmpsP l).1, fitC s ∧ bigC s
  | [], _, _, h => by cases h
  | y :: r, h, s, hs => by
    rw [cmpsP] at hs
    split at hs
    · rcases List.mem_cons.1 hs with rfl | hs
      · exact zoj (h y List.mem_cons_self)
      · exact ziO (fun z hz => h z (List.mem_cons_of_mem _ hz)) s hs
    · cases hs
def confV (x : J) : List CmpR × Int := if ¬ x.kind = 4 then ([], 3) else if (cmpsP x.list).2 = true ∧ okL (cmpsP x.list).1 then ((cmpsP x.list).1, 0) else ([], 3)
def confP (s : Txt) : List CmpR × Int := if ¬ (jparse s).2.2 = 0 then ([], (jparse s).2.2) else confV (jparse s).1
def confPD (r : List CmpR × Int) : D := .tu [.sl 5 r.1.length (cmpF r.1), .i .i64 r.2]
theorem zdC (e : Int) : Weak (.tu [.nilS, .i .i64 e]) (confPD ([], e)) := .tu2 (.nil 5 _) (.refl _)
theorem zqs (l : List CmpR) (p : CmpR) (gf : Nat → List D) (hg : gf 0 = cmpP p) : catF l.length (cmpF l) 1 gf = cmpF (l ++ [p]) := by
  funext j
  unfold catF cmpF
  by_cases h : j < l.length
  · rw [if_pos h]
    simp [List.getD_eq_getElem?_getD, List.getElem?_append_left h]
  · rw [if_neg h]
    by_cases h2 : j < l.length + 1
    · obtain rfl : j = l.length := by omega
      rw [if_pos h2, Nat.sub_self, hg]
      simp [List.getD_eq_getElem?_getD]
    · rw [if_neg h2]
      simp only [List.getD_eq_getElem?_getD]
      rw [List.getElem?_eq_none (show l.length ≤ j by omega), List.getElem?_eq_none (show (l ++ [p]).length ≤ j by simp; omega)]
mutual
theorem zkT {B C : Nat} (hBC : B ≤ C) : ∀ x : J, okK B x → okK C x
  | .mk k y n d e t l ks, h => by
    rw [zlO] at h ⊢
    exact ⟨h.1, ⟨Nat.le_trans h.2.1.1 hBC, h.2.1.2⟩, ⟨h.2.2.1.1, fun q hq => Nat.le_trans (h.2.2.1.2 q hq) hBC⟩, zjz hBC l h.2.2.2⟩
theorem zjz {B C : Nat} (hBC : B ≤ C) : ∀ l : List J, okKL B l → okKL C l
  | [], _ => by
    rw [okKL]
    trivial
  | x :: r, h => by
    rw [okKL] at h ⊢
    exact ⟨zkT hBC x h.1, zjz hBC r h.2⟩
end
theorem zmH (s : Txt) (h : s.length ≤ 200000) : goodJ (jparse s).1 := ⟨by have := zqt s; omega, zkT (by omega) _ (zrr s)⟩
theorem cparD (r : J × Nat × Int) : parD r = .tu [.ag (jP r.1), .i .i64 r.2.1, .i .i64 r.2.2] := by
  unfold parD
  rw [zlu]
set_option maxRecDepth 100000 in
set_option maxHeartbeats 16000000 in
theorem znT (s : Txt) (hs : s.length ≤ 200000) : Ctr Tryz.prog 13 [.s s] (confPD (confP s)) := by
  have hg := zmH s hs
  have c := zna s (by omega)
  unfold confP
  rw [cparD] at c
  replace c := c.weakS (.tu3 (zrE _) (.refl _) (.refl _))
  generalize jparse s = R at c hg ⊢
  obtain ⟨x, p, e⟩ := R
  replace c : Ctr Tryz.prog 25 [.s s] (.tu [.ag (jQ x), .i .i64 p, .i .i64 e]) := c
  dsimp only at hg ⊢
  by_cases he : e = 0
  rotate_left
  · rw [if_pos he]
    refine zaE Tryz.func13 rfl Tryz.ntmps13 Tryz.results13 rfl rfl fun X hL hX => ?_
    repeat' (first |refine zai (f := 25) rfl rfl Tryz.call25 rfl c ?_|with_reducible (first |refine zag ?_|refine zaa ?_|refine zaf ?_|refine zad ?_|refine zaj ?_|refine zae ?_|refine zam ?_|refine zar ?_)|refine zab rfl rfl True.intro ?_|((first |refine zaC rfl ?_ ?_)<;>intro<;>try (first |(exfalso;omega)))|((first |refine zao rfl rfl ?_ ?_|refine zaw rfl ?_ ?_);focus (first |((repeat' refine And.intro ?_ ?_)<;>omega)|((repeat' refine And.intro ?_ ?_)<;>first |rfl|exact Nat.le_refl _)))|refine zbp rfl ?_|fail)
    all_goals exact zdC e
  rw [if_neg (fun h => h he)]
  unfold confV
  by_cases hk : x.kind = 4
  rotate_left
  · rw [if_pos hk]
    refine zaE Tryz.func13 rfl Tryz.ntmps13 Tryz.results13 rfl rfl fun X hL hX => ?_
    repeat' (first |refine zai (f := 25) rfl rfl Tryz.call25 rfl c ?_|with_reducible (first |refine zag ?_|refine zaa ?_|refine zaf ?_|refine zad ?_|refine zaj ?_|refine zae ?_|refine zam ?_|refine zar ?_)|refine zab rfl rfl True.intro ?_|((first |refine zaC rfl ?_ ?_)<;>intro<;>try (first |(exfalso;omega)))|((first |refine zab rfl rfl ?_ ?_|refine zao rfl rfl ?_ ?_|refine zaw rfl ?_ ?_);focus (first |exact le_ rfl|((repeat' refine And.intro ?_ ?_)<;>omega)|((repeat' refine And.intro ?_ ?_)<;>first |rfl|exact Nat.le_refl _)))|refine zbp rfl ?_|fail)
    all_goals exact zdC 3
  rw [if_neg (fun h => h hk)]
  have hlen := zen hg
  have hgA : ∀ i, i < x.list.length → goodJ (x.list.getD i j0) := fun i hi => zhK hg hi
  have hfit := ziO (zcR hg)
  refine zaE Tryz.func13 rfl Tryz.ntmps13 Tryz.results13 rfl (by split <;> rfl) fun X hL hX => ?_
  repeat' (first |refine zai (f := 25) rfl rfl Tryz.call25 rfl c ?_|with_reducible (first |refine zag ?_|refine zaa ?_|refine zaf ?_|refine zad ?_|refine zah ?_|refine zae ?_|refine zap ?_)|refine zab rfl rfl True.intro ?_|((first |refine zaC rfl ?_ ?_)<;>intro<;>try (first |(exfalso;omega)))|((first |refine zab rfl rfl ?_ ?_|refine zao rfl rfl ?_ ?_|refine zaw rfl ?_ ?_);focus (first |exact le_ rfl|((repeat' refine And.intro ?_ ?_)<;>omega)|((repeat' refine And.intro ?_ ?_)<;>first |rfl|exact Nat.le_refl _)))|fail)
  clear c
  generalize x.list = L at *
  refine T.adopt 7 107 27 5 (cmpF []) rfl rfl ?_
  refine T.loop hL (fun z : Nat × List CmpR => [(7, .gs 107 5 z.2.length (cmpF z.2)), (27, .sl 8 L.length (jG L)), (28, .i .i64 L.length), (29, .i .i64 z.1)]) (fun z => [(107, .row 27 5 z.2.length)])
    (fun z => z.1 ≤ L.length ∧ z.2.length = z.1 ∧ cmpsP L = (z.2 ++ (cmpsP (L.drop z.1)).1, (cmpsP (L.drop z.1)).2)) (fun z => L.length - z.1) (0, []) ⟨Nat.zero_le _, rfl, by simp⟩
    ⟨⟨rfl, rfl, rfl, rfl, trivial⟩, ⟨rfl, trivial⟩, rfl, by rw [hX]; simp⟩ ?_
  rintro ⟨i, acc⟩ ⟨g1, g2, g3⟩
  dsimp only at g1 g2 g3 ⊢
  have hnat : (i : Int).toNat = i := Int.toNat_natCast i
  by_cases hil : i < L.length
  · have hil' : (i : Int) < L.length := by omega
    rw [zqQ hil] at g3
    have cS := zoS (L.getD (i : Int).toNat j0) (hgA _ (by omega))
    have hlr : rdCmp (L.getD i j0) = rdCmp (L.getD (i : Int).toNat j0) := by rw [hnat]
    rw [hlr] at g3
    clear hlr
    generalize rdCmp (L.getD (i : Int).toNat j0) = r at cS g3
    obtain ⟨q, ok⟩ := r
    replace cS : Ctr Tryz.prog 26 [.ag (jP (L.getD (i : Int).toNat j0))] (.tu [.ag (cmpP q), .b ok]) := cS
    cases ok with
    | false =>
      rw [if_neg (fun h => by cases h)] at g3
      replace g3 : cmpsP L = (acc, false) := g3.trans (by simp)
      rw [g3, if_neg (fun h => by cases h.1)]
      repeat' (first |refine zai (f := 26) rfl rfl Tryz.call26 rfl cS ?_|with_reducible (first |refine zag ?_|refine zaa ?_|refine zaf ?_|refine zad ?_|refine zaj ?_|refine zah ?_|refine zae ?_|refine zam ?_|refine zar ?_)|refine zab rfl rfl True.intro ?_|refine zav rfl ?_|((first |refine zac rfl ?_ ?_)<;>intro<;>try (first |(exfalso;omega)))|((first |refine zab rfl rfl ?_ ?_|refine zao rfl rfl ?_ ?_|refine zaw rfl ?_ ?_);focus (first |omega|exact le_ rfl|((repeat' refine And.intro ?_ ?_)<;>omega)|((repeat' refine And.intro ?_ ?_)<;>first |rfl|exact Nat.le_refl _)))|refine zbp rfl ?_|fail)
      all_goals exact zdC 3
    | true =>
      rw [if_pos rfl] at g3
      replace g3 : cmpsP L = ((acc ++ [q]) ++ (cmpsP (L.drop (i + 1))).1, (cmpsP (L.drop (i + 1))).2) := g3.trans (by simp)
      have e := zqs acc q (chunk 5 (cmpP q)) rfl
      have g4 : (acc ++ [q]).length = acc.length + 1 := by simp
      repeat' (first |refine zai (f := 26) rfl rfl Tryz.call26 rfl cS ?_|with_reducible (first |refine zag ?_|refine zaa ?_|refine zaf ?_|refine zad ?_|refine zah ?_|refine zae ?_|refine zap ?_)|refine zab rfl rfl True.intro ?_|refine zal rfl ?_|((first |refine zac rfl ?_ ?_)<;>intro<;>try (first |(exfalso;omega)))|((first |refine zab rfl rfl ?_ ?_|refine zao rfl rfl ?_ ?_|refine zaw rfl ?_ ?_);focus (first |omega|exact le_ rfl|((repeat' refine And.intro ?_ ?_)<;>omega)|((repeat' refine And.intro ?_ ?_)<;>first |omega|rfl|exact Nat.le_refl _)))|fail)
      all_goals exact ⟨(i + 1, acc ++ [q]), ⟨by dsimp only; omega, by dsimp only; omega, g3⟩, by dsimp only; omega, ⟨by rw [g4, ← e]; rfl, rfl, rfl, rfl, trivial⟩, ⟨by rw [g4]; rfl, trivial⟩, rfl, by rw [hX]; simp⟩
  have hil' : ¬ (i : Int) < L.length := by omega
  have g5 : cmpsP L = (acc, true) := by
    rw [g3, List.drop_eq_nil_of_le (by omega)]
    show (acc ++ [], true) = _
    rw [List.append_nil]
  rw [g5] at hfit ⊢
  have hf2 := zck (p := fun s => fitC s ∧ bigC s) hfit ⟨fitC0, bigC0⟩
  have cR := zeY acc ⟨by omega, fun i => (hf2 i).1⟩ (fun i => (hf2 i).2)
  clear g3 g5 hfit hf2
  by_cases hok : okL acc
  · rw [decide_eq_true hok] at cR
    rw [if_pos ⟨rfl, hok⟩]
    repeat' (first |refine zai (f := 17) rfl rfl Tryz.call17 rfl cR ?_|with_reducible (first |refine zag ?_|refine zaa ?_|refine zaf ?_|refine zad ?_|refine zaj ?_|refine zah ?_|refine zaA ?_|refine zaz ?_)|refine zab rfl rfl True.intro ?_|refine zal rfl ?_|((first |refine zac rfl ?_ ?_)<;>intro<;>try (first |(exfalso;omega)))|refine zaO rfl ?_|refine zbp rfl ?_|fail)
    all_goals exact .of_eq rfl
  · rw [decide_eq_false hok] at cR
    rw [if_neg (fun h => hok h.2)]
    repeat' (first |refine zai (f := 17) rfl rfl Tryz.call17 rfl cR ?_|with_reducible (first |refine zag ?_|refine zaa ?_|refine zaf ?_|refine zad ?_|refine zaj ?_|refine zaA ?_|refine zaz ?_|refine zam ?_)|refine zab rfl rfl True.intro ?_|refine zav rfl ?_|((first |refine zac rfl ?_ ?_)<;>intro<;>try (first |(exfalso;omega)))|refine zaO rfl ?_|refine zbp rfl ?_|fail)
    all_goals exact zdC 3

def prB (x : J) (k : Txt) (kd : Int) (must : Bool) : Bool := if (getJ x k).2 = true then decide ((getJ x k).1.kind = kd) else !must
end Go.Proofs.YtcajofhafpkbdaaGreatDoor.Flow
