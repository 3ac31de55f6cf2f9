/- The texts G28, G29, J9, J10, J11, G30, G31, D16, G32, G33, one behind the other. -/
import Derived.Test.YtcajofhafpkbdaaGreatDoorCT14
import Derived.Test.YtcajofhafpkbdaaGreatDoorCT20
import Derived.Test.YtcajofhafpkbdaaGreatDoorCT21
import Derived.Test.YtcajofhafpkbdaaGreatDoorCT22
import Derived.Test.YtcajofhafpkbdaaGreatDoorCT23
import Derived.Test.YtcajofhafpkbdaaGreatDoorCT24
import Derived.Test.YtcajofhafpkbdaaGreatDoorCT25
import Derived.Test.YtcajofhafpkbdaaGreatDoorCT27
namespace Go.Proofs.YtcajofhafpkbdaaGreatDoor.Flow
open Go
def flP (x : J) : Prop := prB x kArchive 3 true = true ∧ prB x kCsv 3 false = true ∧ prB x kKey 3 false = true ∧ prB x kAttr 3 false = true ∧ prB x kLayers 4 false = true ∧ prB x kOnly 4 false = true ∧ prB x kNot 4 false = true ∧ prB x kTexts 1 false = true ∧ prB x kDrop 1 false = true
instance (x : J) : Decidable (flP x) := by unfold flP; infer_instance

theorem zoG (e : Int) : Ctr Tryz.prog 15 [.i .i64 e] (.i .i64 e) := by
  refine zaE Tryz.func15 rfl Tryz.ntmps15 Tryz.results15 rfl rfl fun X hL hX => ?_
  repeat' (first |with_reducible (first |refine zag ?_|refine zaa ?_|refine zaf ?_|refine zad ?_|refine zaj ?_)|refine zab rfl rfl True.intro ?_|refine zau rfl ?_|fail)
  all_goals rfl

theorem zqY (m : Int) : (if m.tmod 10 < 0 then -(m.tmod 10) else m.tmod 10) = ((m.natAbs % 10 : Nat) : Int) := by
  by_cases h : 0 ≤ m
  · obtain ⟨k, rfl⟩ := Int.eq_ofNat_of_zero_le h
    rw [Int.tmod_eq_emod_of_nonneg h]
    simp only [Int.natAbs_natCast]
    rw [if_neg (by omega)]
    omega
  · obtain ⟨k, hk⟩ := Int.eq_ofNat_of_zero_le (show 0 ≤ -m by omega)
    obtain rfl : m = -(k : Int) := by omega
    rw [Int.neg_tmod, Int.tmod_eq_emod_of_nonneg (by omega)]
    simp only [Int.natAbs_neg, Int.natAbs_natCast]
    split <;> omega
theorem zpH (m : Int) : (m.tdiv 10).natAbs = m.natAbs / 10 := by
  have h1 : (m.tdiv 10).natAbs = m.natAbs / (10 : Int).natAbs := Int.natAbs_tdiv m 10
  exact h1
theorem zrV (n e : Int) (h0 : -9223372036854775808 ≤ n) (h1 : n ≤ 9223372036854775807) : Ctr Tryz.prog 76 [.i .i64 n, .i .i64 e] (dcV (ofF n e)) := by
  have hlD : (dig0 n.natAbs).length ≤ 19 := by
    unfold dig0
    split
    · simp
    · exact zgj _ 19 (by omega) (by omega)
  have c2 := fun h : -2000 ≤ e ∧ e ≤ 2000 => zpG (decide (n < 0)) (dig0 n.natAbs) e (by omega) (by omega) (by omega)
  rw [zoK] at c2
  generalize hR : ofF n e = R
  unfold ofF at hR
  replace hR := fun _ : Unit => hR.symm
  generalize normF (decide (n < 0)) (Lib.decDigits n.natAbs) e = N at *
  refine zaE Tryz.func76 rfl Tryz.ntmps76 Tryz.results76 rfl rfl fun X hL hX => ?_
  repeat' (first |with_reducible (first |refine zag ?_|refine zaa ?_|refine zaf ?_|refine zad ?_|refine zae ?_)|refine zab rfl rfl True.intro ?_|((first |refine zao rfl rfl ?_ ?_);focus (first |((repeat' refine And.intro ?_ ?_)<;>omega)|((repeat' refine And.intro ?_ ?_)<;>first |rfl)))|fail)
  refine T.loop hL (fun y : Int × List UInt8 => [(0, .i .i64 n), (1, .i .i64 e), (4, .pv 4 0), (5, .s y.2), (6, .i .i64 y.1)]) (fun _ => [(4, .var [.b false, .s [], .i .i64 0])]) (fun y => dig0 n.natAbs = dig0 y.1.natAbs ++ y.2 ∧ InI y.1) (fun y => y.1.natAbs) (n, [])
    ⟨by simp, h0, h1⟩ ⟨⟨rfl, rfl, rfl, rfl, rfl, trivial⟩, ⟨rfl, trivial⟩, rfl, by rw [hX]; intro k hk; cases hk⟩ ?_
  rintro ⟨m, s⟩ ⟨g1, g2⟩
  dsimp only at g1 g2 ⊢
  by_cases hz : m = 0
  · subst hz
    have g1 : dig0 n.natAbs = s := g1
    have g1 := fun _ : Unit => g1
    rw [g1 ()] at c2
    clear g2
    repeat' (first |with_reducible (first |refine zag ?_|refine zaa ?_|refine zaf ?_|refine zad ?_|refine zaj ?_|refine zah ?_|refine zaA ?_|refine zaz ?_|refine zam ?_)|refine zab rfl rfl True.intro ?_|refine zat rfl rfl rfl ?_|refine zak rfl rfl rfl rfl True.intro ?_|refine zav rfl ?_|refine zal rfl ?_|((first |refine zac rfl ?_ ?_|refine zan rfl rfl ?_ ?_)<;>intro)|((first |refine zab rfl rfl ?_ ?_|refine zao rfl rfl ?_ ?_|refine zaw rfl ?_ ?_);focus (first |exact le_ rfl|((repeat' refine And.intro ?_ ?_)<;>omega)|((repeat' refine And.intro ?_ ?_)<;>first |rfl|exact Nat.le_refl _)))|refine zaO rfl ?_|refine zau rfl ?_|refine zai (f := 107) rfl rfl Tryz.call107 rfl (c2 (by omega)) ?_|fail)
    all_goals
      rw [hR ()]
      first
        | rw [if_pos (by omega)]; done
        | (rw [if_pos (by omega)]; rfl)
        | rw [if_neg (by omega)]; done
        | (rw [if_neg (by omega)]; rfl)
  · have hma := zqY m
    have hda := zpH m
    have hst := zoa (k := m.natAbs) (by omega)
    rw [hst, List.append_assoc] at g1
    have hdl : [UInt8.ofNat (48 + m.natAbs % 10)].length = 1 := rfl
    have hcut := znh (m.natAbs % 10) (by omega)
    have hls : s.length ≤ 19 := by
      have := congrArg List.length g1
      simp only [List.length_append] at this
      omega
    have fin : ∀ c : Int, c = ((m.natAbs % 10 : Nat) : Int) → ∀ (fr : Fr) (ow : Ow), leFr fr [(0, .i .i64 n), (1, .i .i64 e), (4, .pv 4 0), (5, .s ((dig10.take (c + 1).toNat).drop c.toNat ++ s)), (6, .i .i64 (m.tdiv 10))] → leOw ow [(4, .var [.b false, .s [], .i .i64 0])] →
        ∃ y : Int × List UInt8, (dig0 n.natAbs = dig0 y.1.natAbs ++ y.2 ∧ InI y.1) ∧ y.1.natAbs < m.natAbs ∧
          Le X fr ow [(0, .i .i64 n), (1, .i .i64 e), (4, .pv 4 0), (5, .s y.2), (6, .i .i64 y.1)] [(4, .var [.b false, .s [], .i .i64 0])] := by
      intro c hc fr ow h1 h2
      subst hc
      rw [show (((m.natAbs % 10 : Nat) : Int) + 1).toNat = m.natAbs % 10 + 1 by omega, Int.toNat_natCast, hcut] at h1
      exact ⟨(m.tdiv 10, [UInt8.ofNat (48 + m.natAbs % 10)] ++ s), ⟨by dsimp only; rw [hda]; exact g1, zns (by omega) g2⟩, by dsimp only; omega, h1, h2, rfl, by rw [hX]; intro k hk; cases hk⟩
    clear g1 hst hcut hR c2
    have l10 : dig10.length = 10 := rfl
    repeat' (first |with_reducible (first |refine zag ?_|refine zaa ?_|refine zaf ?_|refine zad ?_|refine zah ?_|refine zae ?_|refine zap ?_)|refine zab rfl rfl True.intro ?_|((first |refine zac rfl ?_ ?_|refine zaC rfl ?_ ?_)<;>intro<;>try (first |(exfalso;omega)))|((first |refine zab rfl rfl ?_ ?_);focus (first |(simp only [List.length_drop, List.length_take];omega)|omega|((repeat first |rw [wi6_]);(repeat' refine And.intro ?_ ?_)<;>omega)|((repeat' refine And.intro ?_ ?_)<;>first |omega)|(simp_all;omega)))|refine zto rfl rfl rfl (by omega) ?_|refine ztQ rfl rfl rfl (by omega) (by omega) ?_|fail)
    · refine fin (-m.tmod 10) (by rw [if_pos (by omega)] at hma; omega) _ _ ?_ ?_
      · exact ⟨rfl, rfl, rfl, rfl, rfl, trivial⟩
      · exact ⟨rfl, trivial⟩
    · refine fin (m.tmod 10) (by rw [if_neg (by omega)] at hma; omega) _ _ ?_ ?_
      · exact ⟨rfl, rfl, rfl, rfl, rfl, trivial⟩
      · exact ⟨rfl, trivial⟩

abbrev liArch : Txt := [123, 34, 97, 114, 99, 104, 105, 118, 101, 34, 58]
abbrev liLay : Txt := [44, 34, 108, 97, 121, 101, 114, 115, 34, 58, 91]
abbrev liCsv : Txt := [44, 34, 99, 115, 118, 34, 58]
abbrev liKey : Txt := [44, 34, 107, 101, 121, 34, 58]
abbrev liAttr : Txt := [44, 34, 97, 116, 116, 114, 34, 58]
abbrev liOnly : Txt := [44, 34, 111, 110, 108, 121, 34, 58]
abbrev liNot : Txt := [44, 34, 110, 111, 116, 34, 58]
abbrev liTexts : Txt := [44, 34, 116, 101, 120, 116, 115, 34, 58]
abbrev liDrop : Txt := [44, 34, 100, 114, 111, 112, 34, 58]
abbrev liId : Txt := [123, 34, 105, 100, 34, 58]
abbrev liSrc : Txt := [44, 34, 115, 111, 117, 114, 99, 101, 115, 34, 58, 91]
abbrev liBuf : Txt := [93, 44, 34, 98, 117, 102, 102, 101, 114, 34, 58]
abbrev liMx : Txt := [44, 34, 109, 97, 120, 122, 111, 111, 109, 34, 58]
abbrev liLim : Txt := [44, 34, 108, 105, 109, 105, 116, 34, 58]
def layT (s : SrcR) (m : Nat) : Txt := if m = 0 then [] else liLay ++ partN false (s.lays.map layJ) [] m
def layE (s : SrcR) : Txt := if s.lays = [] then [] else layT s s.lays.length ++ [93]
def csvE (s : SrcR) : Txt := if s.csv = [] then [] else liCsv ++ quoteL s.csv ++ liKey ++ quoteL s.key ++ liAttr ++ quoteL s.attr ++ liOnly ++ textJ (listJ (s.only.map txJ)) ++ liNot ++ textJ (listJ (s.notl.map txJ)) ++ liTexts ++ textJ (boolJ s.texts) ++ liDrop ++ textJ (boolJ s.drop)
theorem zez (mp : Bool) (l : List J) (ks : List Txt) {i : Nat} (hi : i ≤ l.length) : (partN mp l ks i).length ≤ (partN mp l ks l.length).length := by
  have mono : ∀ n i, i + n = l.length → (partN mp l ks i).length ≤ (partN mp l ks l.length).length := by
    intro n
    induction n with
    | zero => intro i h; rw [show i = l.length by omega]; exact Nat.le_refl _
    | succ n ih =>
      intro i h
      have h2 := ih (i + 1) (by omega)
      rw [zbW mp ks (show i < l.length by omega)] at h2
      simp only [List.length_append] at h2
      omega
  exact mono (l.length - i) i (by omega)
theorem zpl {s : SrcR} {m : Nat} (h : m ≤ s.lays.length) : (layT s m).length ≤ (layE s).length := by
  by_cases h0 : m = 0
  · subst h0
    exact Nat.zero_le _
  · have hl : ¬ s.lays = [] := fun q => by rw [q] at h; simp at h; exact h0 h
    have hn : ¬ s.lays.length = 0 := fun q => hl (List.length_eq_zero_iff.1 q)
    have hp := zez false (s.lays.map layJ) [] (i := m) (by simpa using h)
    rw [List.length_map] at hp
    unfold layE layT
    rw [if_neg hl, if_neg h0, if_neg hn]
    simp only [List.length_append]
    omega
theorem zpx {s : SrcR} {m : Nat} (h : m < s.lays.length) : layT s (m + 1) = layT s m ++ (if m = 0 then liLay else [44]) ++ textJ (layJ (s.lays.getD m ([], []))) := by
  have hs := zbW false (l := s.lays.map layJ) [] (i := m) (by simpa using h)
  have e : (s.lays.map layJ).getD m j0 = layJ (s.lays.getD m ([], [])) := by simp [List.getD_eq_getElem?_getD, h]
  rw [e] at hs
  unfold layT
  rw [if_neg (by omega), hs]
  by_cases h0 : m = 0
  · subst h0
    simp [zcB]
  · simp [h0]
theorem zgV : liArch = [123] ++ (quoteL kArchive ++ [58]) ∧ liLay = [44] ++ (quoteL kLayers ++ [58]) ++ [91] ∧ liCsv = [44] ++ (quoteL kCsv ++ [58]) ∧ liKey = [44] ++ (quoteL kKey ++ [58]) ∧ liAttr = [44] ++ (quoteL kAttr ++ [58]) ∧ liOnly = [44] ++ (quoteL kOnly ++ [58]) ∧ liNot = [44] ++ (quoteL kNot ++ [58]) ∧ liTexts = [44] ++ (quoteL kTexts ++ [58]) ∧ liDrop = [44] ++ (quoteL kDrop ++ [58]) := by decide +kernel
theorem zkp : liId = [123] ++ (quoteL kId ++ [58]) ∧ liSrc = [44] ++ (quoteL kSources ++ [58]) ++ [91] ∧ liBuf = [93] ++ [44] ++ (quoteL kBuffer ++ [58]) ∧ liMx = [44] ++ (quoteL kMaxzoom ++ [58]) ∧ liLim = [44] ++ (quoteL kLimit ++ [58]) := by decide +kernel
theorem zeX (t : Txt) : textJ (txJ t) = quoteL t := by
  unfold txJ
  rw [textJ]
  rfl
theorem zde (l : List J) : textJ (listJ l) = [91] ++ partN false l [] l.length ++ [93] := by
  rw [zfY]
  unfold listJ
  rw [textJ]
  rfl
theorem zej (l : List J) (ks : List Txt) : textJ (mapJ l ks) = [123] ++ partsT true true l ks ++ [125] := by
  unfold mapJ
  rw [textJ]
  rfl
theorem zpU (n : Int) : textJ (numJ n) = textF (ofF n 0).1 (ofF n 0).2.1 (ofF n 0).2.2 := by
  unfold numJ
  rw [textJ]
  rfl
theorem zjf (s : SrcR) : liLay ++ partN false (s.lays.map layJ) [] s.lays.length ++ [93] = [44] ++ (quoteL kLayers ++ [58]) ++ textJ (listJ (s.lays.map layJ)) := by
  rw [zgV.2.1, zde, List.length_map]
  simp only [List.append_assoc]
theorem zrc (s : SrcR) : textJ (srcJ s) = liArch ++ quoteL s.arch ++ layE s ++ csvE s ++ [125] := by
  obtain ⟨e1, e2, e3, e4, e5, e6, e7, e8, e9⟩ := zgV
  unfold srcJ csvE layE layT srcV1 srcK1
  by_cases hc : s.csv = [] <;> by_cases hl : s.lays = []
  · simp only [hc, hl, if_true, zej, partsT, aheadT, zeX, e1, List.headD_cons, List.append_assoc, List.append_nil, List.nil_append]
  · have hlen : ¬ s.lays.length = 0 := fun q => hl (List.length_eq_zero_iff.1 q)
    have hx := zjf s
    rw [if_pos hc, if_pos hc, if_neg hl, if_neg hl, if_neg hl, if_neg hlen, hx]
    simp only [zej, partsT, aheadT, zeX, e1, List.headD_cons, List.tail_cons, List.append_assoc, List.append_nil, List.nil_append, Bool.false_eq_true, if_false, if_true]
  · rw [if_neg hc, if_neg hc, if_pos hl, if_pos hl, if_pos hl]
    simp only [zej, partsT, aheadT, zeX, e1, e3, e4, e5, e6, e7, e8, e9, List.headD_cons, List.tail_cons, List.append_assoc, List.cons_append, List.append_nil, List.nil_append, Bool.false_eq_true, if_false, if_true]
  · have hlen : ¬ s.lays.length = 0 := fun q => hl (List.length_eq_zero_iff.1 q)
    have hx := zjf s
    rw [if_neg hc, if_neg hc, if_neg hl, if_neg hl, if_neg hl, if_neg hlen, hx]
    simp only [zej, partsT, aheadT, zeX, e1, e3, e4, e5, e6, e7, e8, e9, List.headD_cons, List.tail_cons, List.append_assoc, List.cons_append, List.append_nil, List.nil_append, Bool.false_eq_true, if_false, if_true]
theorem zpY (c : CmpR) : textJ (cmpJ c) = liId ++ quoteL c.id ++ liSrc ++ partN false (c.srcs.map srcJ) [] c.srcs.length ++ liBuf ++ textJ (numJ c.buf) ++ liMx ++ textJ (numJ c.mx) ++ liLim ++ textJ (numJ c.lim) ++ [125] := by
  obtain ⟨e1, e2, e3, e4, e5⟩ := zkp
  have hx := zde (c.srcs.map srcJ)
  rw [List.length_map] at hx
  unfold cmpJ
  simp only [zej, partsT, aheadT, zeX, hx, e1, e2, e3, e4, e5, List.headD_cons, List.tail_cons, List.append_assoc, List.cons_append, List.append_nil, List.nil_append, Bool.false_eq_true, if_false, if_true]
theorem zdy (t : Txt) (h : bigT t) : Ctr Tryz.prog 40 [.s t] (.s (quoteL t)) := by
  have c := zmW t h
  refine zaE Tryz.func40 rfl Tryz.ntmps40 Tryz.results40 rfl rfl fun X hL hX => ?_
  repeat' (first |refine zai (f := 74) rfl rfl Tryz.call74 rfl c ?_|with_reducible (first |refine zag ?_|refine zaa ?_|refine zaf ?_|refine zad ?_|refine zaj ?_)|refine zab rfl rfl True.intro ?_|refine zau rfl ?_|fail)
  all_goals rfl
theorem zgN (b : Bool) : Ctr Tryz.prog 42 [.b b] (.s (textJ (boolJ b))) := by
  unfold boolJ
  rw [textJ]
  cases b
  all_goals
    refine zaE Tryz.func42 rfl Tryz.ntmps42 Tryz.results42 rfl rfl fun X hL hX => ?_
    repeat' (first |with_reducible (first |refine zag ?_|refine zaa ?_|refine zaf ?_|refine zad ?_|refine zaj ?_|refine zah ?_|refine zam ?_)|refine zab rfl rfl True.intro ?_|refine zav rfl ?_|refine zal rfl ?_|refine zau rfl ?_|fail)
  all_goals rfl
theorem zga (n : Int) (h0 : -9223372036854775808 ≤ n) (h1 : n ≤ 9223372036854775807) : Ctr Tryz.prog 43 [.i .i64 n] (.s (textJ (numJ n))) := by
  have c1 := zrV n 0 h0 h1
  have hr := zfG n 0 h0 h1 (by decide) (by decide)
  have c2 := zpF (ofF n 0).1 (ofF n 0).2.1 (ofF n 0).2.2 (by
    unfold RightP at hr
    split at hr
    · omega
    · have := hr.2.1
      omega)
  rw [zpU]
  refine zaE Tryz.func43 rfl Tryz.ntmps43 Tryz.results43 rfl rfl fun X hL hX => ?_
  repeat' (first |refine zai (f := 76) rfl rfl Tryz.call76 rfl c1 ?_|refine zai (f := 75) rfl rfl Tryz.call75 rfl c2 ?_|with_reducible (first |refine zag ?_|refine zaa ?_|refine zaf ?_|refine zad ?_|refine zaj ?_)|refine zab rfl rfl True.intro ?_|refine zau rfl ?_|fail)
  all_goals rfl
theorem zqM {l : List Txt} {i : Nat} (h : i < l.length) : partN false (l.map txJ) [] (i + 1) = (partN false (l.map txJ) [] i ++ (if i = 0 then [] else [44])) ++ quoteL (l.getD i []) := by
  have hs := zbW false (l := l.map txJ) [] (i := i) (by simpa using h)
  have e : (l.map txJ).getD i j0 = txJ (l.getD i []) := by simp [List.getD_eq_getElem?_getD, h]
  rw [e, zeX] at hs
  rw [hs]
  simp
set_option maxRecDepth 100000 in
set_option maxHeartbeats 4000000 in
theorem zeW (l : List Txt) (hl : l.length ≤ 4194304) (hb : ∀ i, bigT (l.getD i [])) (hT : (textJ (listJ (l.map txJ))).length ≤ 1000000000) : Ctr Tryz.prog 41 [.sl 1 l.length (txF l)] (.s (textJ (listJ (l.map txJ)))) := by
  have hN : ∀ i, i ≤ l.length → (partN false (l.map txJ) [] i).length ≤ 1000000000 := fun i hi => by
    have hp := zez false (l.map txJ) [] (i := i) (by simpa using hi)
    rw [zde] at hT
    simp only [List.length_append] at hT
    omega
  clear hT
  rw [zde, List.length_map]
  refine zaE Tryz.func41 rfl Tryz.ntmps41 Tryz.results41 rfl rfl fun X hL hX => ?_
  repeat' (first |with_reducible (first |refine zag ?_|refine zaa ?_|refine zaf ?_|refine zad ?_|refine zae ?_)|refine zab rfl rfl True.intro ?_|fail)
  refine T.loop hL (fun i : Nat => [(0, .sl 1 l.length (txF l)), (3, .s ([91] ++ partN false (l.map txJ) [] i)), (4, .i .i64 i)]) (fun _ => []) (fun i => i ≤ l.length) (fun i => l.length - i) 0 (Nat.zero_le _)
    ⟨⟨rfl, by rw [zcB, List.append_nil]; rfl, rfl, trivial⟩, trivial, rfl, by rw [hX]; simp⟩ ?_
  rintro i g1
  try dsimp only at g1 ⊢
  have hnat : (i : Int).toNat = i := Int.toNat_natCast i
  by_cases hil : i < l.length
  · have hil' : (i : Int) < l.length := by omega
    have c := zdy (l.getD (i : Int).toNat []) (hb _)
    have e := zqM hil
    have hb1 := hN (i + 1) hil
    have hb0 := hN i (by omega)
    rw [e] at hb1
    have hq : quoteL (l.getD i []) = quoteL (l.getD (i : Int).toNat []) := by rw [hnat]
    rw [hq] at e hb1
    clear hq hN
    generalize quoteL (l.getD (i : Int).toNat []) = Q at *
    simp only [List.length_append] at hb1
    by_cases h0 : i = 0
    · rw [if_pos h0, List.append_nil] at e
      have h0' : (i : Int) = 0 := by omega
      repeat' (first |refine zai (f := 40) rfl rfl Tryz.call40 rfl c ?_|with_reducible (first |refine zag ?_|refine zaa ?_|refine zaf ?_|refine zad ?_|refine zah ?_|refine zae ?_|refine zap ?_)|refine zab rfl rfl True.intro ?_|((first |refine zac rfl ?_ ?_)<;>intro<;>try (first |(exfalso;omega)))|((first |refine zab rfl rfl ?_ ?_);focus (first |(simp only [List.length_append, List.length_cons, List.length_nil];omega)|omega|exact le_ rfl|((repeat' refine And.intro ?_ ?_)<;>omega)))|fail)
      all_goals exact ⟨i + 1, by omega, by omega, ⟨rfl, by rw [e, ← List.append_assoc]; rfl, rfl, trivial⟩, trivial, rfl, by rw [hX]; simp⟩
    · rw [if_neg h0] at e hb1
      simp only [List.length_cons, List.length_nil] at hb1
      have h0' : (i : Int) > 0 := by omega
      repeat' (first |refine zai (f := 40) rfl rfl Tryz.call40 rfl c ?_|with_reducible (first |refine zag ?_|refine zaa ?_|refine zaf ?_|refine zad ?_|refine zah ?_|refine zae ?_|refine zap ?_)|refine zab rfl rfl True.intro ?_|((first |refine zac rfl ?_ ?_)<;>intro<;>try (first |(exfalso;omega)))|((first |refine zab rfl rfl ?_ ?_);focus (first |(simp only [List.length_append, List.length_cons, List.length_nil];omega)|omega|exact le_ rfl|((repeat' refine And.intro ?_ ?_)<;>omega)))|fail)
      all_goals exact ⟨i + 1, by omega, by omega, ⟨rfl, by rw [e, ← List.append_assoc, ← List.append_assoc]; rfl, rfl, trivial⟩, trivial, rfl, by rw [hX]; simp⟩
  have hil' : ¬ (i : Int) < l.length := by omega
  have hb0 := hN i (by omega)
  rw [show l.length = i by omega]
  repeat' (first |with_reducible (first |refine zag ?_|refine zaa ?_|refine zaf ?_|refine zad ?_|refine zaj ?_|refine zaA ?_|refine zaz ?_)|refine zab rfl rfl True.intro ?_|((first |refine zac rfl ?_ ?_)<;>intro<;>try (first |(exfalso;omega)))|((first |refine zab rfl rfl ?_ ?_);focus (first |(simp only [List.length_append, List.length_cons, List.length_nil];omega)|((repeat' refine And.intro ?_ ?_)<;>omega)))|refine zaO rfl ?_|refine zau rfl ?_|fail)
  all_goals rfl

theorem ziS {α : Type} {f : α → J} {d : α} {l : List α} {i : Nat} (h : i < l.length) : partN false (l.map f) [] (i + 1) = (partN false (l.map f) [] i ++ (if i = 0 then [] else [44])) ++ textJ (f (l.getD i d)) := by
  have hs := zbW false (l := l.map f) [] (i := i) (by simpa using h)
  have e : (l.map f).getD i j0 = f (l.getD i d) := by simp [List.getD_eq_getElem?_getD, h]
  rw [e] at hs
  rw [hs]
  simp
def rtextC (l : List CmpR) : Txt := if okL l then textJ (confJ l) else []
def commaT (i : Nat) : Txt := if i = 0 then [] else [44]
set_option maxRecDepth 100000 in
set_option maxHeartbeats 32000000 in
theorem zmS (l : List CmpR) (hl : smallL l) (hb : ∀ i, bigC (l.getD i c0R)) (hT : okL l → (textJ (confJ l)).length ≤ 1000000000) : Ctr Tryz.prog 19 [.sl 5 l.length (cmpF l)] (.s (rtextC l)) := by
  have cR := zhm l hl hb
  unfold rtextC
  by_cases hok : okL l
  rotate_left
  · rw [decide_eq_false hok] at cR
    rw [if_neg hok]
    refine zaE Tryz.func19 rfl Tryz.ntmps19 Tryz.results19 rfl rfl fun X hL hX => ?_
    repeat' (first |refine zai (f := 18) rfl rfl Tryz.call18 rfl cR ?_|with_reducible (first |refine zag ?_|refine zaa ?_|refine zaf ?_|refine zad ?_|refine zaj ?_|refine zam ?_)|refine zab rfl rfl True.intro ?_|refine zav rfl ?_|refine zau rfl ?_|fail)
    all_goals rfl
  rw [decide_eq_true hok] at cR
  rw [if_pos hok]
  have hT := hT hok
  obtain ⟨hl1, hl2⟩ := hl
  have ht := zde (l.map cmpJ)
  rw [List.length_map] at ht
  unfold confJ at hT ⊢
  rw [ht] at hT ⊢
  have hN : ∀ i, i ≤ l.length → (partN false (l.map cmpJ) [] i).length + 2 ≤ 1000000000 := fun i hi => by
    have hp := zez false (l.map cmpJ) [] (i := i) (by simpa using hi)
    rw [List.length_map] at hp
    simp only [List.length_append, List.length_cons, List.length_nil] at hT
    omega
  clear ht hT
  refine zaE Tryz.func19 rfl Tryz.ntmps19 Tryz.results19 rfl rfl fun X hL hX => ?_
  repeat' (first |refine zai (f := 18) rfl rfl Tryz.call18 rfl cR ?_|with_reducible (first |refine zag ?_|refine zaa ?_|refine zaf ?_|refine zad ?_|refine zah ?_|refine zae ?_)|refine zab rfl rfl True.intro ?_|refine zal rfl ?_|fail)
  clear cR
  refine T.loop hL (fun i : Nat => [(0, .sl 5 l.length (cmpF l)), (3, .s ([91] ++ partN false (l.map cmpJ) [] i)), (4, .i .i64 i)]) (fun _ => []) (fun i => i ≤ l.length) (fun i => l.length - i) 0 (Nat.zero_le _)
    ⟨⟨rfl, by rw [zcB, List.append_nil]; rfl, rfl, trivial⟩, trivial, rfl, by rw [hX]; simp⟩ ?_
  rintro i g1
  try dsimp only at g1 ⊢
  have hnat : (i : Int).toNat = i := Int.toNat_natCast i
  by_cases hil : i < l.length
  rotate_left
  · have hil' : ¬ (i : Int) < l.length := by omega
    have hb0 := hN i (by omega)
    rw [show l.length = i by omega]
    repeat' (first |with_reducible (first |refine zag ?_|refine zaa ?_|refine zaf ?_|refine zad ?_|refine zaj ?_|refine zaA ?_|refine zaz ?_)|refine zab rfl rfl True.intro ?_|((first |refine zac rfl ?_ ?_)<;>intro<;>try (first |(exfalso;omega)))|((first |refine zab rfl rfl ?_ ?_);focus (first |(simp only [List.length_append, List.length_cons, List.length_nil];omega)|((repeat' refine And.intro ?_ ?_)<;>omega)))|refine zaO rfl ?_|refine zau rfl ?_|fail)
    all_goals rfl
  have hil' : (i : Int) < l.length := by omega
  obtain ⟨hb1, hb2⟩ := hb (i : Int).toNat
  obtain ⟨hc1, hc2⟩ := hl2 (i : Int).toNat
  obtain ⟨⟨_, _, _, p1, p2, p3, p4, p5, p6⟩, _⟩ := hok i hil
  rw [← hnat] at p1 p2 p3 p4 p5 p6
  have e := ziS (f := cmpJ) (d := c0R) hil
  rw [zpY] at e
  have e' : [91] ++ partN false (l.map cmpJ) [] (i + 1) = ([91] ++ partN false (l.map cmpJ) [] i ++ commaT i) ++ [123, 34, 105, 100, 34, 58] ++ quoteL (l.getD (i : Int).toNat c0R).id ++ [44, 34, 115, 111, 117, 114, 99, 101, 115, 34, 58, 91] ++ partN false ((l.getD (i : Int).toNat c0R).srcs.map srcJ) [] (l.getD (i : Int).toNat c0R).srcs.length ++ [93, 44, 34, 98, 117, 102, 102, 101, 114, 34, 58] ++ textJ (numJ (l.getD (i : Int).toNat c0R).buf) ++ [44, 34, 109, 97, 120, 122, 111, 111, 109, 34, 58] ++ textJ (numJ (l.getD (i : Int).toNat c0R).mx) ++ [44, 34, 108, 105, 109, 105, 116, 34, 58] ++ textJ (numJ (l.getD (i : Int).toNat c0R).lim) ++ [125] := by
    rw [e, hnat]
    unfold commaT liId liSrc liBuf liMx liLim
    simp only [List.append_assoc]
  have hO2 := hN (i + 1) hil
  have hO0 := hN i (by omega)
  clear hN
  clear e hok hb hl2
  have hcm0 : i = 0 → [91] ++ partN false (l.map cmpJ) [] i = [91] ++ partN false (l.map cmpJ) [] i ++ commaT i := fun h => by
    unfold commaT
    rw [if_pos h, List.append_nil]
  have hcm1 : ¬ i = 0 → [91] ++ partN false (l.map cmpJ) [] i ++ [44] = [91] ++ partN false (l.map cmpJ) [] i ++ commaT i := fun h => by
    unfold commaT
    rw [if_neg h]
  replace hO0 : ([91] ++ partN false (l.map cmpJ) [] i).length ≤ 1000000000 := by rw [List.length_append]; show 1 + _ ≤ _; omega
  generalize [91] ++ partN false (l.map cmpJ) [] i ++ commaT i = O1 at *
  generalize [91] ++ partN false (l.map cmpJ) [] i = O at *
  have hlen := congrArg List.length e'
  simp only [List.length_append, List.length_cons, List.length_nil] at hlen
  have cI := zdy (l.getD (i : Int).toNat c0R).id hb1
  have cB := zga (l.getD (i : Int).toNat c0R).buf (by omega) (by omega)
  have cM := zga (l.getD (i : Int).toNat c0R).mx (by omega) (by omega)
  have cT := zga (l.getD (i : Int).toNat c0R).lim (by omega) (by omega)
  clear p1 p2 p3 p4 p5 p6 hb1
  repeat' (first |refine ziT 7 hL (fun _ : Unit => [(0, .sl 5 l.length (cmpF l)), (3, .s O1), (4, .i .i64 i)]) (fun _ => []) (fun _ => True) ?_ ?_|with_reducible (first |refine zag ?_|refine zaa ?_|refine zaf ?_|refine zad ?_|refine zah ?_|refine zae ?_)|refine zab rfl rfl True.intro ?_|((first |refine zac rfl ?_ ?_)<;>intro<;>try (first |(exfalso;omega)))|((first |refine zab rfl rfl ?_ ?_);focus (first |(simp only [List.length_cons, List.length_nil];omega)|((repeat' refine And.intro ?_ ?_)<;>omega)))|fail)
  · exact ⟨(), trivial, ⟨rfl, congrArg D.s (hcm1 (by omega)), rfl, trivial⟩, trivial, rfl, by rw [hX]; simp⟩
  · exact ⟨(), trivial, ⟨rfl, congrArg D.s (hcm0 (by omega)), rfl, trivial⟩, trivial, rfl, by rw [hX]; simp⟩
  intro _ _
  clear hcm0 hcm1
  repeat' (first |refine zai (f := 40) rfl rfl Tryz.call40 rfl cI ?_|with_reducible (first |refine zag ?_|refine zaa ?_|refine zaf ?_|refine zad ?_|refine zae ?_)|refine zab rfl rfl True.intro ?_|((first |refine zab rfl rfl ?_ ?_);focus (first |(simp only [List.length_append, List.length_cons, List.length_nil];omega)|omega|exact le_ rfl|((repeat' refine And.intro ?_ ?_)<;>omega)))|fail)
  clear cI
  refine T.loop hL (fun k : Nat => [(0, .sl 5 l.length (cmpF l)), (3, .s (O1 ++ [123, 34, 105, 100, 34, 58] ++ quoteL (l.getD (i : Int).toNat c0R).id ++ [44, 34, 115, 111, 117, 114, 99, 101, 115, 34, 58, 91] ++ partN false ((l.getD (i : Int).toNat c0R).srcs.map srcJ) [] k)), (4, .i .i64 i), (5, .i .i64 k)]) (fun _ => []) (fun k => k ≤ (l.getD (i : Int).toNat c0R).srcs.length) (fun k => (l.getD (i : Int).toNat c0R).srcs.length - k) 0 (Nat.zero_le _)
    ⟨⟨rfl, by rw [zcB, List.append_nil]; rfl, rfl, rfl, trivial⟩, trivial, rfl, by rw [hX]; simp⟩ ?_
  rintro k u1
  try dsimp only at u1 ⊢
  have knat : (k : Int).toNat = k := Int.toNat_natCast k
  have hnk := zez false ((l.getD (i : Int).toNat c0R).srcs.map srcJ) [] (i := k) (by rw [List.length_map]; exact u1)
  rw [List.length_map] at hnk
  have hQ : (O1 ++ [123, 34, 105, 100, 34, 58] ++ quoteL (l.getD (i : Int).toNat c0R).id ++ [44, 34, 115, 111, 117, 114, 99, 101, 115, 34, 58, 91]).length = O1.length + 6 + (quoteL (l.getD (i : Int).toNat c0R).id).length + 12 := by simp only [List.length_append, List.length_cons, List.length_nil]
  generalize O1 ++ [123, 34, 105, 100, 34, 58] ++ quoteL (l.getD (i : Int).toNat c0R).id ++ [44, 34, 115, 111, 117, 114, 99, 101, 115, 34, 58, 91] = Q at e' hQ ⊢
  by_cases hkl : k < (l.getD (i : Int).toNat c0R).srcs.length
  rotate_left
  · have hkl' : ¬ (k : Int) < (l.getD (i : Int).toNat c0R).srcs.length := by omega
    have ek : (l.getD (i : Int).toNat c0R).srcs.length = k := by omega
    rw [ek] at e' hlen
    repeat' (first |refine zai (f := 43) rfl rfl Tryz.call43 rfl cB ?_|refine zai (f := 43) rfl rfl Tryz.call43 rfl cM ?_|refine zai (f := 43) rfl rfl Tryz.call43 rfl cT ?_|with_reducible (first |refine zag ?_|refine zaa ?_|refine zaf ?_|refine zad ?_|refine zaA ?_|refine zap ?_|refine zaz ?_|refine zaB ?_)|refine zab rfl rfl True.intro ?_|((first |refine zac rfl ?_ ?_)<;>intro<;>try (first |(exfalso;omega)))|((first |refine zab rfl rfl ?_ ?_);focus (first |(simp only [List.length_append, List.length_cons, List.length_nil];omega)|omega|exact le_ rfl|((repeat' refine And.intro ?_ ?_)<;>omega)))|refine zaO rfl ?_|with_reducible refine ⟨by kernel_rfl, ?_⟩|fail)
    all_goals exact ⟨i + 1, by omega, by omega, ⟨rfl, congrArg D.s e'.symm, rfl, trivial⟩, trivial, rfl, by rw [hX]; simp⟩
  clear cB cM cT e'
  have hnk1 := zez false ((l.getD (i : Int).toNat c0R).srcs.map srcJ) [] (i := k + 1) (by rw [List.length_map]; exact hkl)
  rw [List.length_map] at hnk1
  have hQ2 : Q.length + (partN false ((l.getD (i : Int).toNat c0R).srcs.map srcJ) [] (k + 1)).length ≤ 1000000000 := by omega
  have hQ0 : (Q ++ partN false ((l.getD (i : Int).toNat c0R).srcs.map srcJ) [] k).length ≤ 1000000000 := by rw [List.length_append]; omega
  clear hnk hnk1 hlen hQ hO2 hO0
  have hkl' : (k : Int) < (l.getD (i : Int).toNat c0R).srcs.length := by omega
  obtain ⟨b1, b2, b3, b4, b5, b6, b7⟩ := hb2 (k : Int).toNat
  obtain ⟨s1, s2, s3⟩ := hc2 (k : Int).toNat
  have e2 := ziS (f := srcJ) (d := s0R) hkl
  rw [zrc] at e2
  have e2' : Q ++ partN false ((l.getD (i : Int).toNat c0R).srcs.map srcJ) [] (k + 1) = (Q ++ partN false ((l.getD (i : Int).toNat c0R).srcs.map srcJ) [] k ++ commaT k) ++ [123, 34, 97, 114, 99, 104, 105, 118, 101, 34, 58] ++ quoteL ((l.getD (i : Int).toNat c0R).srcs.getD (k : Int).toNat s0R).arch ++ layE ((l.getD (i : Int).toNat c0R).srcs.getD (k : Int).toNat s0R) ++ csvE ((l.getD (i : Int).toNat c0R).srcs.getD (k : Int).toNat s0R) ++ [125] := by
    rw [e2, knat]
    unfold commaT liArch
    simp only [List.append_assoc]
  have hcm0 : k = 0 → Q ++ partN false ((l.getD (i : Int).toNat c0R).srcs.map srcJ) [] k = Q ++ partN false ((l.getD (i : Int).toNat c0R).srcs.map srcJ) [] k ++ commaT k := fun h => by
    unfold commaT
    rw [if_pos h, List.append_nil]
  have hcm1 : ¬ k = 0 → Q ++ partN false ((l.getD (i : Int).toNat c0R).srcs.map srcJ) [] k ++ [44] = Q ++ partN false ((l.getD (i : Int).toNat c0R).srcs.map srcJ) [] k ++ commaT k := fun h => by
    unfold commaT
    rw [if_neg h]
  clear e2 hb2 hc2
  generalize Q ++ partN false ((l.getD (i : Int).toNat c0R).srcs.map srcJ) [] k ++ commaT k = R1 at *
  generalize Q ++ partN false ((l.getD (i : Int).toNat c0R).srcs.map srcJ) [] k = R at *
  have hlen := congrArg List.length e2'
  simp only [List.length_append, List.length_cons, List.length_nil] at hlen
  repeat' (first |refine ziT 14 hL (fun _ : Unit => [(0, .sl 5 l.length (cmpF l)), (3, .s R1), (4, .i .i64 i), (5, .i .i64 k), (6, .pv 6 0)]) (fun _ => [(6, .var (srcP ((l.getD (i : Int).toNat c0R).srcs.getD (k : Int).toNat s0R)))]) (fun _ => True) ?_ ?_|with_reducible (first |refine zag ?_|refine zaa ?_|refine zaf ?_|refine zad ?_|refine zah ?_|refine zae ?_)|refine zab rfl rfl True.intro ?_|((first |refine zac rfl ?_ ?_)<;>intro<;>try (first |(exfalso;omega)))|((first |refine zab rfl rfl ?_ ?_|refine zao rfl rfl ?_ ?_|refine zaw rfl ?_ ?_);focus (first |(simp only [List.length_cons, List.length_nil];omega)|omega|exact le_ rfl|((repeat' refine And.intro ?_ ?_)<;>omega)|((repeat' refine And.intro ?_ ?_)<;>first |rfl|exact Nat.le_refl _)))|fail)
  · exact ⟨(), trivial, ⟨rfl, congrArg D.s (hcm1 (by omega)), rfl, rfl, rfl, trivial⟩, ⟨rfl, trivial⟩, rfl, by rw [hX]; simp⟩
  · exact ⟨(), trivial, ⟨rfl, congrArg D.s (hcm0 (by omega)), rfl, rfl, rfl, trivial⟩, ⟨rfl, trivial⟩, rfl, by rw [hX]; simp⟩
  intro _ _
  clear hcm0 hcm1
  generalize ((l.getD (i : Int).toNat c0R).srcs.getD (k : Int).toNat s0R) = s at *
  have cA := zdy s.arch b1
  repeat' (first |refine zai (f := 40) rfl rfl Tryz.call40 rfl cA ?_|with_reducible (first |refine zag ?_|refine zaa ?_|refine zaf ?_|refine zad ?_|refine zae ?_)|refine zab rfl rfl True.intro ?_|((first |refine zab rfl rfl ?_ ?_);focus (first |(simp only [List.length_append, List.length_cons, List.length_nil];omega)|exact le_ rfl|((repeat' refine And.intro ?_ ?_)<;>omega)))|fail)
  clear cA
  refine T.loop hL (fun m : Nat => [(0, .sl 5 l.length (cmpF l)), (3, .s (R1 ++ [123, 34, 97, 114, 99, 104, 105, 118, 101, 34, 58] ++ quoteL s.arch ++ layT s m)), (4, .i .i64 i), (5, .i .i64 k), (6, .pv 6 0), (7, .i .i64 m)]) (fun _ => [(6, .var (srcP s))]) (fun m => m ≤ s.lays.length) (fun m => s.lays.length - m) 0 (Nat.zero_le _)
    ⟨⟨rfl, by rw [show layT s 0 = [] from rfl, List.append_nil]; rfl, rfl, rfl, rfl, rfl, trivial⟩, ⟨rfl, trivial⟩, rfl, by rw [hX]; simp⟩ ?_
  rintro m d1
  try dsimp only at d1 ⊢
  have mnat : (m : Int).toNat = m := Int.toNat_natCast m
  have hlt := zpl d1
  have hA : (R1 ++ [123, 34, 97, 114, 99, 104, 105, 118, 101, 34, 58] ++ quoteL s.arch).length = R1.length + 11 + (quoteL s.arch).length := by simp only [List.length_append, List.length_cons, List.length_nil]
  generalize R1 ++ [123, 34, 97, 114, 99, 104, 105, 118, 101, 34, 58] ++ quoteL s.arch = A1 at e2' hA ⊢
  by_cases hml : m < s.lays.length
  · have hml' : (m : Int) < s.lays.length := by omega
    have hbm := b7 (m : Int).toNat
    have e3 := zpx hml
    have hlt1 := zpl (s := s) (m := m + 1) hml
    have hl3 := congrArg List.length e3
    have ep : layJ (s.lays.getD m ([], [])) = layJ (s.lays.getD (m : Int).toNat ([], [])) := by rw [mnat]
    rw [ep] at e3 hl3
    clear ep
    simp only [List.length_append] at hl3
    have c : Ctr Tryz.prog 41 [.sl 1 2 (fun j => [[D.s (s.lays.getD (m : Int).toNat ([], [])).1, D.s (s.lays.getD (m : Int).toNat ([], [])).2].getD j .any])] (.s (textJ (layJ (s.lays.getD (m : Int).toNat ([], []))))) := (zeW [(s.lays.getD (m : Int).toNat ([], [])).1, (s.lays.getD (m : Int).toNat ([], [])).2] (by simp) (atTwo hbm.1 hbm.2) (by show (textJ (layJ (s.lays.getD (m : Int).toNat ([], [])))).length ≤ _; omega)).weak1 (zhP _ _)
    clear e2' b2 b3 b4 b5 b6 b7
    by_cases h0 : m = 0
    · rw [if_pos h0] at e3 hl3
      simp only [List.length_cons, List.length_nil] at hl3
      have h0' : (m : Int) = 0 := by omega
      repeat' (first |refine zjF rfl rfl (le_ rfl) rfl ?_|refine zai (f := 41) rfl rfl Tryz.call41 rfl c ?_|with_reducible (first |refine zag ?_|refine zaa ?_|refine zaf ?_|refine zad ?_|refine zah ?_|refine zae ?_|refine zap ?_)|refine zab rfl rfl True.intro ?_|((first |refine zac rfl ?_ ?_)<;>intro<;>try (first |(exfalso;omega)))|((first |refine zab rfl rfl ?_ ?_);focus (first |(simp only [List.length_append, List.length_cons, List.length_nil];omega)|omega|exact le_ rfl|((repeat' refine And.intro ?_ ?_)<;>omega)))|fail)
      all_goals exact ⟨m + 1, by omega, by omega, ⟨rfl, congrArg D.s (by rw [e3, ← List.append_assoc, ← List.append_assoc]), rfl, rfl, rfl, rfl, trivial⟩, ⟨rfl, trivial⟩, rfl, by rw [hX]; simp⟩
    · rw [if_neg h0] at e3 hl3
      simp only [List.length_cons, List.length_nil] at hl3
      have h0' : ¬ (m : Int) = 0 := by omega
      repeat' (first |refine zjF rfl rfl (le_ rfl) rfl ?_|refine zai (f := 41) rfl rfl Tryz.call41 rfl c ?_|with_reducible (first |refine zag ?_|refine zaa ?_|refine zaf ?_|refine zad ?_|refine zah ?_|refine zae ?_|refine zap ?_)|refine zab rfl rfl True.intro ?_|((first |refine zac rfl ?_ ?_)<;>intro<;>try (first |(exfalso;omega)))|((first |refine zab rfl rfl ?_ ?_);focus (first |(simp only [List.length_append, List.length_cons, List.length_nil];omega)|omega|exact le_ rfl|((repeat' refine And.intro ?_ ?_)<;>omega)))|fail)
      all_goals exact ⟨m + 1, by omega, by omega, ⟨rfl, congrArg D.s (by rw [e3, ← List.append_assoc, ← List.append_assoc]), rfl, rfl, rfl, rfl, trivial⟩, ⟨rfl, trivial⟩, rfl, by rw [hX]; simp⟩
  have hml' : ¬ (m : Int) < s.lays.length := by omega
  have em : s.lays.length = m := by omega
  have hE0 : ¬ 0 < s.lays.length → A1 ++ layT s m = A1 ++ layE s := fun h => by
    have h1 : s.lays = [] := List.length_eq_zero_iff.1 (by omega)
    unfold layE
    rw [if_pos h1, show m = 0 by omega]
    rfl
  have hE1 : 0 < s.lays.length → A1 ++ layT s m ++ [93] = A1 ++ layE s := fun h => by
    have h1 : ¬ s.lays = [] := fun q => by rw [q] at h; exact absurd h (by simp)
    unfold layE
    rw [if_neg h1, em, List.append_assoc]
  clear em
  have hA2 : (A1 ++ layE s).length ≤ 1000000000 := by rw [List.length_append]; omega
  have hA3 : (A1 ++ layT s m).length ≤ 1000000000 := by rw [List.length_append]; omega
  have hle := congrArg List.length e2'
  clear hlen hA hlt
  generalize A1 ++ layE s = A2 at *
  generalize A1 ++ layT s m = A3 at *
  repeat' (first |refine ziT 24 hL (fun _ : Unit => [(0, .sl 5 l.length (cmpF l)), (3, .s A2), (4, .i .i64 i), (5, .i .i64 k), (6, .pv 6 0)]) (fun _ => [(6, .var (srcP s))]) (fun _ => True) ?_ ?_|with_reducible (first |refine zag ?_|refine zaa ?_|refine zaf ?_|refine zad ?_|refine zah ?_|refine zaA ?_|refine zaz ?_)|refine zab rfl rfl True.intro ?_|((first |refine zac rfl ?_ ?_)<;>intro<;>try (first |(exfalso;omega)))|((first |refine zab rfl rfl ?_ ?_);focus (first |(simp only [List.length_cons, List.length_nil];omega)|exact le_ rfl|((repeat' refine And.intro ?_ ?_)<;>omega)))|refine zaO rfl ?_|fail)
  · exact ⟨(), trivial, ⟨rfl, congrArg D.s (hE1 (by omega)), rfl, rfl, rfl, trivial⟩, ⟨rfl, trivial⟩, rfl, by rw [hX]; simp⟩
  · exact ⟨(), trivial, ⟨rfl, congrArg D.s (hE0 (by omega)), rfl, rfl, rfl, trivial⟩, ⟨rfl, trivial⟩, rfl, by rw [hX]; simp⟩
  intro _ _
  clear hE0 hE1 hml hml' d1
  have cC := zdy s.csv b2
  have cK := zdy s.key b3
  have cA := zdy s.attr b4
  simp only [List.length_append, List.length_cons, List.length_nil] at hle
  have cX := zgN s.texts
  have cD := zgN s.drop
  have hC0 : s.csv = [] → A2 = A2 ++ csvE s := fun h => by
    unfold csvE
    rw [if_pos h, List.append_nil]
  have hC1 : ¬ s.csv = [] → A2 ++ [44, 34, 99, 115, 118, 34, 58] ++ quoteL s.csv ++ [44, 34, 107, 101, 121, 34, 58] ++ quoteL s.key ++ [44, 34, 97, 116, 116, 114, 34, 58] ++ quoteL s.attr ++ [44, 34, 111, 110, 108, 121, 34, 58] ++ textJ (listJ (s.only.map txJ)) ++ [44, 34, 110, 111, 116, 34, 58] ++ textJ (listJ (s.notl.map txJ)) ++ [44, 34, 116, 101, 120, 116, 115, 34, 58] ++ textJ (boolJ s.texts) ++ [44, 34, 100, 114, 111, 112, 34, 58] ++ textJ (boolJ s.drop) = A2 ++ csvE s := fun h => by
    unfold csvE
    rw [if_neg h]
    simp only [List.append_assoc]
  have hcl : ¬ s.csv = [] → (csvE s).length = 7 + (quoteL s.csv).length + 7 + (quoteL s.key).length + 8 + (quoteL s.attr).length + 8 + (textJ (listJ (s.only.map txJ))).length + 7 + (textJ (listJ (s.notl.map txJ))).length + 9 + (textJ (boolJ s.texts)).length + 8 + (textJ (boolJ s.drop)).length := fun h => by
    unfold csvE
    rw [if_neg h]
    simp only [List.length_append, List.length_cons, List.length_nil]
  have hA4 : (A2 ++ csvE s).length = A2.length + (csvE s).length := List.length_append
  generalize A2 ++ csvE s = A4 at *
  by_cases hcsv : s.csv = []
  · have hcsv' : ¬ (s.csv == (⟨#[]⟩ : ByteArray).data.toList) = false := fun h => beq_eq_false_iff_ne.1 h hcsv
    have hC0 := hC0 hcsv
    clear hC1 hcl cC cK cA cX cD
    repeat' (first |with_reducible (first |refine zag ?_|refine zaa ?_|refine zaf ?_|refine zad ?_|refine zah ?_|refine zap ?_)|refine zab rfl rfl True.intro ?_|((first |refine zbr rfl ?_ ?_)<;>intro<;>try (first |contradiction))|((first |refine zab rfl rfl ?_ ?_|refine zao rfl rfl ?_ ?_|refine zaw rfl ?_ ?_);focus (first |(simp only [List.length_cons, List.length_nil];omega)|omega|exact le_ rfl|((repeat' refine And.intro ?_ ?_)<;>omega)|((repeat' refine And.intro ?_ ?_)<;>first |rfl|exact Nat.le_refl _)))|fail)
    all_goals exact ⟨k + 1, by omega, by omega, ⟨rfl, congrArg D.s (by rw [e2', ← hC0]), rfl, rfl, trivial⟩, trivial, rfl, by rw [hX]; simp⟩
  have hcsv' : ¬ (s.csv == (⟨#[]⟩ : ByteArray).data.toList) = true := fun h => hcsv (beq_iff_eq.1 h)
  have hcl := hcl hcsv
  have hC1 := hC1 hcsv
  have cO := zeW s.only s2 b5 (by omega)
  have cN := zeW s.notl s3 b6 (by omega)
  clear hC0
  repeat' (first |refine zai (f := 40) rfl rfl Tryz.call40 rfl cC ?_|refine zai (f := 40) rfl rfl Tryz.call40 rfl cK ?_|refine zai (f := 40) rfl rfl Tryz.call40 rfl cA ?_|refine zai (f := 41) rfl rfl Tryz.call41 rfl cO ?_|refine zai (f := 41) rfl rfl Tryz.call41 rfl cN ?_|refine zai (f := 42) rfl rfl Tryz.call42 rfl cX ?_|refine zai (f := 42) rfl rfl Tryz.call42 rfl cD ?_|with_reducible (first |refine zag ?_|refine zaa ?_|refine zaf ?_|refine zad ?_|refine zap ?_|refine zaB ?_)|refine zab rfl rfl True.intro ?_|((first |refine zbr rfl ?_ ?_)<;>intro<;>try (first |contradiction))|((first |refine zab rfl rfl ?_ ?_|refine zao rfl rfl ?_ ?_|refine zaw rfl ?_ ?_);focus (first |(simp only [List.length_append, List.length_cons, List.length_nil];omega)|omega|exact le_ rfl|((repeat' refine And.intro ?_ ?_)<;>omega)|((repeat' refine And.intro ?_ ?_)<;>first |rfl|exact Nat.le_refl _)))|with_reducible refine ⟨by kernel_rfl, ?_⟩|fail)
  all_goals exact ⟨k + 1, by omega, by omega, ⟨rfl, congrArg D.s (by rw [e2', ← hC1]), rfl, rfl, trivial⟩, trivial, rfl, by rw [hX]; simp⟩
end Go.Proofs.YtcajofhafpkbdaaGreatDoor.Flow
