/- The texts G18, G19, one behind the other. -/
import Derived.Test.YtcajofhafpkbdaaGreatDoorCF28
import Derived.Test.YtcajofhafpkbdaaGreatDoorCF32
namespace Go.Proofs.YtcajofhafpkbdaaGreatDoor.Flow
open Go

def kId : Txt := [105, 100]
def kSources : Txt := [115, 111, 117, 114, 99, 101, 115]
def kBuffer : Txt := [98, 117, 102, 102, 101, 114]
def kMaxzoom : Txt := [109, 97, 120, 122, 111, 111, 109]
def kLimit : Txt := [108, 105, 109, 105, 116]
def cmpJ (c : CmpR) : J := mapJ ([txJ c.id] ++ [listJ (c.srcs.map srcJ)] ++ [numJ c.buf] ++ [numJ c.mx] ++ [numJ c.lim]) ([kId] ++ [kSources] ++ [kBuffer] ++ [kMaxzoom] ++ [kLimit])
def confJ (l : List CmpR) : J := listJ (l.map cmpJ)
def textC (l : List CmpR) : Txt := if okL l then (if rightJ 64 (confJ l) = true then textJ (confJ l) else []) else []

theorem CtrO.shutR {P : Program} {f : FuncId} {args : List D} {ow ow' : Ow} {d : D} (h : CtrO P f args ow d ow') : CtrO P f args ow d.shutA ow' := fun X vs h1 h2 h3 h4 h5 =>
  (h X vs h1 h2 h3 h4 h5).mono fun _ _ ⟨v, S', r', g1, g2, g3⟩ => ⟨v, S', r', g1, g2.shutA, g3⟩
theorem zlp (l : List J) (ks : List Txt) (y : J) (key : Txt) (hl : l.length ≤ 4194304) (hk : ks.length ≤ 4194304) : CtrO Tryz.prog 33 [.ag (xG l ks), .s key, .ag (jP y)] (xR l ks) (.ag (jP (mapJ (l ++ [y]) (ks ++ [key])))) (xR (l ++ [y]) (ks ++ [key])) := (zbz l ks y key hl hk).shutR

set_option maxRecDepth 100000 in
set_option maxHeartbeats 16000000 in
theorem zlA (l : List CmpR) (hl : fitL l) (hb : ∀ i, bigC (l.getD i c0R)) (hj : jb (confJ l) ≤ 1000000) : Ctr Tryz.prog 16 [.sl 5 l.length (cmpF l)] (.s (textC l)) := by
  have cR := zkj l hl hb
  have cT := (zkD (confJ l) hj).weak1 (zde _)
  unfold textC
  by_cases hok : okL l
  rotate_left
  · rw [decide_eq_false hok] at cR
    rw [if_neg hok]
    refine zbe Tryz.func16 rfl Tryz.ntmps16 Tryz.results16 rfl rfl fun X hL hX => ?_
    repeat' (first |refine zaR (f := 17) rfl rfl Tryz.call17 rfl cR ?_|with_reducible (first |refine zaK ?_|refine zaj ?_|refine zaL ?_|refine zaB ?_|refine zaO ?_|refine zaD ?_|refine zaC ?_|refine zar ?_|refine zaq ?_|refine zaI ?_|refine zaE ?_|refine zas ?_|refine zaH ?_)|refine zaw rfl rfl True.intro ?_|refine zau rfl rfl rfl ?_|refine zao rfl rfl rfl ?_|refine zag rfl rfl rfl rfl True.intro ?_|refine zaF rfl ?_|refine zat rfl ?_|((first |refine zal rfl ?_ ?_|refine zan rfl ?_ ?_|refine zak rfl ?_ ?_|refine zam rfl ?_ ?_|refine zap rfl ?_ ?_|refine zaA rfl ?_ ?_|refine zad rfl rfl ?_ ?_|refine zae rfl rfl ?_ ?_|refine zaf rfl rfl ?_ ?_|refine zac rfl rfl ?_ ?_|refine zab rfl rfl ?_ ?_)<;>intro<;>try (first |(rename_i hz;first |exact tf_ hz|exact ft_ hz)|(exfalso;omega)))|((first |refine zaw rfl rfl ?_ ?_|refine zag rfl rfl rfl rfl ?_ ?_|refine zaM rfl rfl ?_ ?_|refine zaJ rfl ?_ ?_|refine zaG rfl rfl rfl rfl ?_ ?_);focus (first |omega|exact le_ rfl|((repeat first |rw [zay]|rw [wi6_]|rw [wi3_]|rw [zai]|rw [zah]);(repeat' refine And.intro ?_ ?_)<;>omega)|((repeat' refine And.intro ?_ ?_)<;>first |omega|rfl|exact Nat.le_refl _|exact le_ rfl|exact zaa _)|(simp_all;done)|(simp_all;omega)))|refine zaP rfl ?_|refine zaz rfl ?_|with_reducible refine ⟨by kernel_rfl, ?_⟩|refine zaQ rfl ?_|refine zaT rfl ?_|((with_reducible refine zaN ?_);(fail_if_success (refine zax true rfl rfl rfl ?_));(fail_if_success (refine zax false rfl rfl rfl ?_));refine zav rfl rfl (fun _ => ?_) (fun _ => ?_)))
    all_goals rfl
  rw [decide_eq_true hok] at cR
  rw [if_pos hok]
  generalize (if rightJ 64 (confJ l) = true then textJ (confJ l) else []) = out at cT ⊢
  obtain ⟨hl1, hl2⟩ := hl
  refine zbe Tryz.func16 rfl Tryz.ntmps16 Tryz.results16 rfl rfl fun X hL hX => ?_
  repeat' (first |refine T.adoptV 3 6 100 55 8 _ (jF []) rfl rfl rfl ?_|refine zaR (f := 17) rfl rfl Tryz.call17 rfl cR ?_|with_reducible (first |refine zaK ?_|refine zaj ?_|refine zaL ?_|refine zaB ?_|refine zaO ?_|refine zaD ?_|refine zaC ?_|refine zar ?_|refine zaq ?_|refine zaI ?_|refine zaE ?_|refine zas ?_|refine zaH ?_)|refine zaw rfl rfl True.intro ?_|refine zau rfl rfl rfl ?_|refine zao rfl rfl rfl ?_|refine zag rfl rfl rfl rfl True.intro ?_|refine zaF rfl ?_|refine zat rfl ?_|((first |refine zal rfl ?_ ?_|refine zan rfl ?_ ?_|refine zak rfl ?_ ?_|refine zam rfl ?_ ?_|refine zap rfl ?_ ?_|refine zaA rfl ?_ ?_|refine zad rfl rfl ?_ ?_|refine zae rfl rfl ?_ ?_|refine zaf rfl rfl ?_ ?_|refine zac rfl rfl ?_ ?_|refine zab rfl rfl ?_ ?_)<;>intro<;>try (first |(rename_i hz;first |exact tf_ hz|exact ft_ hz)|(exfalso;omega)))|((first |refine zaw rfl rfl ?_ ?_|refine zag rfl rfl rfl rfl ?_ ?_|refine zaM rfl rfl ?_ ?_|refine zaJ rfl ?_ ?_|refine zaG rfl rfl rfl rfl ?_ ?_);focus (first |omega|exact le_ rfl|((repeat first |rw [zay]|rw [wi6_]|rw [wi3_]|rw [zai]|rw [zah]);(repeat' refine And.intro ?_ ?_)<;>omega)|((repeat' refine And.intro ?_ ?_)<;>first |omega|rfl|exact Nat.le_refl _|exact le_ rfl|exact zaa _)|(simp_all;done)|(simp_all;omega)))|refine zaP rfl ?_|refine zaz rfl ?_|with_reducible refine ⟨by kernel_rfl, ?_⟩|refine zaQ rfl ?_|refine zaT rfl ?_|((with_reducible refine zaN ?_);(fail_if_success (refine zax true rfl rfl rfl ?_));(fail_if_success (refine zax false rfl rfl rfl ?_));refine zav rfl rfl (fun _ => ?_) (fun _ => ?_)))
  refine T.loop hL (fun i : Nat => [(3, .pv 3 0), (14, .sl 5 l.length (cmpF l)), (15, .i .i64 l.length), (16, .i .i64 i)]) (fun i => [(3, .var [.i .i64 4, .b false, .b false, .s [], .i .i64 0, .s [], .gs 100 8 ((l.take i).map cmpJ).length (jF ((l.take i).map cmpJ)), .nilS]), (100, .row 55 8 ((l.take i).map cmpJ).length)])
    (fun i => i ≤ l.length ∧ ((l.take i).map cmpJ).length = i) (fun i => l.length - i) 0 ⟨Nat.zero_le _, by simp⟩
    ⟨⟨rfl, rfl, rfl, rfl, trivial⟩, ⟨rfl, rfl, trivial⟩, rfl, by rw [hX]; simp⟩ ?_
  rintro i ⟨g1, g2⟩
  try dsimp only at g1 g2 ⊢
  have hnat : (i : Int).toNat = i := Int.toNat_natCast i
  by_cases hil : i < l.length
  rotate_left
  · have hil' : ¬ (i : Int) < l.length := by omega
    have ea : l.take i = l := List.take_of_length_le (by omega)
    rw [ea]
    repeat' (first |refine zpN (t := 62) rfl rfl (le_ rfl) ?_|refine zaR (f := 36) rfl rfl Tryz.call36 rfl cT ?_|with_reducible (first |refine zaK ?_|refine zaj ?_|refine zaL ?_|refine zaB ?_|refine zaO ?_|refine zaD ?_|refine zaC ?_|refine zar ?_|refine zaq ?_|refine zaI ?_|refine zaE ?_|refine zas ?_|refine zaH ?_)|refine zaw rfl rfl True.intro ?_|refine zau rfl rfl rfl ?_|refine zao rfl rfl rfl ?_|refine zag rfl rfl rfl rfl True.intro ?_|refine zaF rfl ?_|refine zat rfl ?_|((first |refine zal rfl ?_ ?_|refine zan rfl ?_ ?_|refine zak rfl ?_ ?_|refine zam rfl ?_ ?_|refine zap rfl ?_ ?_|refine zaA rfl ?_ ?_|refine zad rfl rfl ?_ ?_|refine zae rfl rfl ?_ ?_|refine zaf rfl rfl ?_ ?_|refine zac rfl rfl ?_ ?_|refine zab rfl rfl ?_ ?_)<;>intro<;>try (first |(rename_i hz;first |exact tf_ hz|exact ft_ hz)|(exfalso;omega)))|((first |refine zaw rfl rfl ?_ ?_|refine zag rfl rfl rfl rfl ?_ ?_|refine zaM rfl rfl ?_ ?_|refine zaJ rfl ?_ ?_|refine zaG rfl rfl rfl rfl ?_ ?_);focus (first |omega|exact le_ rfl|((repeat first |rw [zay]|rw [wi6_]|rw [wi3_]|rw [zai]|rw [zah]);(repeat' refine And.intro ?_ ?_)<;>omega)|((repeat' refine And.intro ?_ ?_)<;>first |omega|rfl|exact Nat.le_refl _|exact le_ rfl|exact zaa _)|(simp_all;done)|(simp_all;omega)))|refine zaP rfl ?_|refine zaz rfl ?_|with_reducible refine ⟨by kernel_rfl, ?_⟩|refine zaQ rfl ?_|refine zaT rfl ?_|((with_reducible refine zaN ?_);(fail_if_success (refine zax true rfl rfl rfl ?_));(fail_if_success (refine zax false rfl rfl rfl ?_));refine zav rfl rfl (fun _ => ?_) (fun _ => ?_)))
    all_goals rfl
  clear cT cR
  have hil' : (i : Int) < l.length := by omega
  obtain ⟨hc1, hc2⟩ := hl2 (i : Int).toNat
  obtain ⟨⟨_, _, _, p1, p2, p3, p4, p5, p6⟩, _⟩ := hok i hil
  have e := zev (f := cmpJ) (d := c0R) hil
  have e1 := zfz ((l.take i).map cmpJ) (cmpJ (l.getD (i : Int).toNat c0R)) (chunk 8 (jP (cmpJ (l.getD (i : Int).toNat c0R)))) (by rw [zkM]; rfl)
  rw [hnat] at e1
  have g3 : ((l.take (i + 1)).map cmpJ).length = ((l.take i).map cmpJ).length + 1 := by rw [e, List.length_append]; rfl
  repeat' (first |refine T.adoptV 6 6 103 55 8 _ (jF []) rfl rfl rfl ?_|with_reducible (first |refine zaK ?_|refine zaj ?_|refine zaL ?_|refine zaB ?_|refine zaO ?_|refine zaD ?_|refine zaC ?_|refine zar ?_|refine zaq ?_|refine zaI ?_|refine zaE ?_|refine zas ?_|refine zaH ?_)|refine zaw rfl rfl True.intro ?_|refine zau rfl rfl rfl ?_|refine zao rfl rfl rfl ?_|refine zag rfl rfl rfl rfl True.intro ?_|refine zaF rfl ?_|refine zat rfl ?_|((first |refine zal rfl ?_ ?_|refine zan rfl ?_ ?_|refine zak rfl ?_ ?_|refine zam rfl ?_ ?_|refine zap rfl ?_ ?_|refine zaA rfl ?_ ?_|refine zad rfl rfl ?_ ?_|refine zae rfl rfl ?_ ?_|refine zaf rfl rfl ?_ ?_|refine zac rfl rfl ?_ ?_|refine zab rfl rfl ?_ ?_)<;>intro<;>try (first |(rename_i hz;first |exact tf_ hz|exact ft_ hz)|(exfalso;omega)))|((first |refine zaw rfl rfl ?_ ?_|refine zag rfl rfl rfl rfl ?_ ?_|refine zaM rfl rfl ?_ ?_|refine zaJ rfl ?_ ?_|refine zaG rfl rfl rfl rfl ?_ ?_);focus (first |omega|exact le_ rfl|((repeat first |rw [zay]|rw [wi6_]|rw [wi3_]|rw [zai]|rw [zah]);(repeat' refine And.intro ?_ ?_)<;>omega)|((repeat' refine And.intro ?_ ?_)<;>first |omega|rfl|exact Nat.le_refl _|exact le_ rfl|exact zaa _)|(simp_all;done)|(simp_all;omega)))|refine zaP rfl ?_|refine zaz rfl ?_|with_reducible refine ⟨by kernel_rfl, ?_⟩|refine zaQ rfl ?_|refine zaT rfl ?_|((with_reducible refine zaN ?_);(fail_if_success (refine zax true rfl rfl rfl ?_));(fail_if_success (refine zax false rfl rfl rfl ?_));refine zav rfl rfl (fun _ => ?_) (fun _ => ?_)))
  refine T.loop hL (fun k : Nat => [(3, .pv 3 0), (5, .pv 5 0), (6, .pv 6 0), (14, .sl 5 l.length (cmpF l)), (15, .i .i64 l.length), (16, .i .i64 i), (22, .sl 9 (l.getD (i : Int).toNat c0R).srcs.length (srcF (l.getD (i : Int).toNat c0R).srcs)), (23, .i .i64 (l.getD (i : Int).toNat c0R).srcs.length), (24, .i .i64 k)]) (fun k => [(3, .var [.i .i64 4, .b false, .b false, .s [], .i .i64 0, .s [], .gs 100 8 ((l.take i).map cmpJ).length (jF ((l.take i).map cmpJ)), .nilS]), (5, .var (cmpP (l.getD (i : Int).toNat c0R))), (6, .var [.i .i64 4, .b false, .b false, .s [], .i .i64 0, .s [], .gs 103 8 (((l.getD (i : Int).toNat c0R).srcs.take k).map srcJ).length (jF (((l.getD (i : Int).toNat c0R).srcs.take k).map srcJ)), .nilS]), (100, .row 55 8 ((l.take i).map cmpJ).length), (103, .row 55 8 (((l.getD (i : Int).toNat c0R).srcs.take k).map srcJ).length)])
    (fun k => k ≤ (l.getD (i : Int).toNat c0R).srcs.length ∧ (((l.getD (i : Int).toNat c0R).srcs.take k).map srcJ).length = k) (fun k => (l.getD (i : Int).toNat c0R).srcs.length - k) 0 ⟨Nat.zero_le _, by simp⟩
    ⟨⟨rfl, rfl, rfl, rfl, rfl, rfl, rfl, rfl, rfl, trivial⟩, ⟨rfl, rfl, rfl, rfl, rfl, trivial⟩, rfl, by rw [hX]; simp⟩ ?_
  rintro k ⟨u1, u2⟩
  try dsimp only at u1 u2 ⊢
  have knat : (k : Int).toNat = k := Int.toNat_natCast k
  by_cases hkl : k < (l.getD (i : Int).toNat c0R).srcs.length
  · have hkl' : (k : Int) < (l.getD (i : Int).toNat c0R).srcs.length := by omega
    have c := zhS ((l.getD (i : Int).toNat c0R).srcs.getD (k : Int).toNat s0R) (hc2 _)
    have f := zev (f := srcJ) (d := s0R) hkl
    have f1 := zfz (((l.getD (i : Int).toNat c0R).srcs.take k).map srcJ) (srcJ ((l.getD (i : Int).toNat c0R).srcs.getD (k : Int).toNat s0R)) (chunk 8 (jP (srcJ ((l.getD (i : Int).toNat c0R).srcs.getD (k : Int).toNat s0R)))) (by rw [zkM]; rfl)
    rw [knat] at f1
    have u3 : (((l.getD (i : Int).toNat c0R).srcs.take (k + 1)).map srcJ).length = (((l.getD (i : Int).toNat c0R).srcs.take k).map srcJ).length + 1 := by rw [f, List.length_append]; rfl
    clear e e1 g3
    repeat' (first |refine zaR (f := 32) rfl rfl Tryz.call32 rfl c ?_|with_reducible (first |refine zaK ?_|refine zaj ?_|refine zaL ?_|refine zaB ?_|refine zaO ?_|refine zaD ?_|refine zaC ?_|refine zar ?_|refine zaq ?_|refine zaI ?_|refine zaE ?_|refine zas ?_|refine zaH ?_)|refine zaw rfl rfl True.intro ?_|refine zau rfl rfl rfl ?_|refine zao rfl rfl rfl ?_|refine zag rfl rfl rfl rfl True.intro ?_|refine zaF rfl ?_|refine zat rfl ?_|((first |refine zal rfl ?_ ?_|refine zan rfl ?_ ?_|refine zak rfl ?_ ?_|refine zam rfl ?_ ?_|refine zap rfl ?_ ?_|refine zaA rfl ?_ ?_|refine zad rfl rfl ?_ ?_|refine zae rfl rfl ?_ ?_|refine zaf rfl rfl ?_ ?_|refine zac rfl rfl ?_ ?_|refine zab rfl rfl ?_ ?_)<;>intro<;>try (first |(rename_i hz;first |exact tf_ hz|exact ft_ hz)|(exfalso;omega)))|((first |refine zaw rfl rfl ?_ ?_|refine zag rfl rfl rfl rfl ?_ ?_|refine zaM rfl rfl ?_ ?_|refine zaJ rfl ?_ ?_|refine zaG rfl rfl rfl rfl ?_ ?_);focus (first |omega|exact le_ rfl|((repeat first |rw [zay]|rw [wi6_]|rw [wi3_]|rw [zai]|rw [zah]);(repeat' refine And.intro ?_ ?_)<;>omega)|((repeat' refine And.intro ?_ ?_)<;>first |omega|rfl|exact Nat.le_refl _|exact le_ rfl|exact zaa _)|(simp_all;done)|(simp_all;omega)))|refine zaP rfl ?_|refine zaz rfl ?_|with_reducible refine ⟨by kernel_rfl, ?_⟩|refine zaQ rfl ?_|refine zaT rfl ?_|((with_reducible refine zaN ?_);(fail_if_success (refine zax true rfl rfl rfl ?_));(fail_if_success (refine zax false rfl rfl rfl ?_));refine zav rfl rfl (fun _ => ?_) (fun _ => ?_)))
    all_goals exact ⟨k + 1, ⟨by omega, by omega⟩, by omega, ⟨rfl, rfl, rfl, rfl, rfl, rfl, rfl, rfl, rfl, trivial⟩, ⟨rfl, rfl, by rw [u3, f, ← f1]; rfl, rfl, by rw [u3]; rfl, trivial⟩, rfl, by rw [hX]; simp⟩
  have hkl' : ¬ (k : Int) < (l.getD (i : Int).toNat c0R).srcs.length := by omega
  have ea : (l.getD (i : Int).toNat c0R).srcs.take k = (l.getD (i : Int).toNat c0R).srcs := List.take_of_length_le (by omega)
  rw [ea]
  rw [← hnat] at p1 p2 p3 p4 p5 p6
  have oI := zeb (l.getD (i : Int).toNat c0R).id
  have wI := zhE (txJ (l.getD (i : Int).toNat c0R).id) kId
  have wS := (zbz [txJ (l.getD (i : Int).toNat c0R).id] [kId] (listJ ((l.getD (i : Int).toNat c0R).srcs.map srcJ)) kSources (by simp) (by simp)).weakThird (zde _)
  have n1 := zgp (l.getD (i : Int).toNat c0R).buf (by omega) (by omega)
  have n2 := zgp (l.getD (i : Int).toNat c0R).mx (by omega) (by omega)
  have n3 := zgp (l.getD (i : Int).toNat c0R).lim (by omega) (by omega)
  have w1 := zbz ([txJ (l.getD (i : Int).toNat c0R).id] ++ [listJ ((l.getD (i : Int).toNat c0R).srcs.map srcJ)]) ([kId] ++ [kSources]) (numJ (l.getD (i : Int).toNat c0R).buf) kBuffer (by simp) (by simp)
  have w2 := zbz ([txJ (l.getD (i : Int).toNat c0R).id] ++ [listJ ((l.getD (i : Int).toNat c0R).srcs.map srcJ)] ++ [numJ (l.getD (i : Int).toNat c0R).buf]) ([kId] ++ [kSources] ++ [kBuffer]) (numJ (l.getD (i : Int).toNat c0R).mx) kMaxzoom (by simp) (by simp)
  have w3 := zlp ([txJ (l.getD (i : Int).toNat c0R).id] ++ [listJ ((l.getD (i : Int).toNat c0R).srcs.map srcJ)] ++ [numJ (l.getD (i : Int).toNat c0R).buf] ++ [numJ (l.getD (i : Int).toNat c0R).mx]) ([kId] ++ [kSources] ++ [kBuffer] ++ [kMaxzoom]) (numJ (l.getD (i : Int).toNat c0R).lim) kLimit (by simp) (by simp)
  clear hok p1 p2 p3 p4 p5 p6
  repeat' (first |refine zaR (f := 34) rfl rfl Tryz.call34 rfl oI ?_|refine zaR (f := 35) rfl rfl Tryz.call35 rfl n1 ?_|refine zaR (f := 35) rfl rfl Tryz.call35 rfl n2 ?_|refine zaR (f := 35) rfl rfl Tryz.call35 rfl n3 ?_|refine zbE (f := 33) [] (xR [txJ (l.getD (i : Int).toNat c0R).id] [kId]) [] [101, 102] rfl rfl (by decide) (fun _ h => by cases h) (new2 rfl rfl) rfl rfl Tryz.call33 trivial rfl rfl rfl rfl wI ?_|refine zbE (f := 33) (xR ([txJ (l.getD (i : Int).toNat c0R).id]) ([kId])) (xR ([txJ (l.getD (i : Int).toNat c0R).id] ++ [listJ ((l.getD (i : Int).toNat c0R).srcs.map srcJ)]) ([kId] ++ [kSources])) [101, 102] [101, 102] rfl rfl (by decide) (fun _ h => h) (fun k h1 h2 => absurd h1 h2) rfl rfl Tryz.call33 ⟨rfl, rfl, trivial⟩ rfl rfl rfl rfl wS ?_|refine zbE (f := 33) (xR ([txJ (l.getD (i : Int).toNat c0R).id] ++ [listJ ((l.getD (i : Int).toNat c0R).srcs.map srcJ)]) ([kId] ++ [kSources])) (xR ([txJ (l.getD (i : Int).toNat c0R).id] ++ [listJ ((l.getD (i : Int).toNat c0R).srcs.map srcJ)] ++ [numJ (l.getD (i : Int).toNat c0R).buf]) ([kId] ++ [kSources] ++ [kBuffer])) [101, 102] [101, 102] rfl rfl (by decide) (fun _ h => h) (fun k h1 h2 => absurd h1 h2) rfl rfl Tryz.call33 ⟨rfl, rfl, trivial⟩ rfl rfl rfl rfl w1 ?_|refine zbE (f := 33) (xR ([txJ (l.getD (i : Int).toNat c0R).id] ++ [listJ ((l.getD (i : Int).toNat c0R).srcs.map srcJ)] ++ [numJ (l.getD (i : Int).toNat c0R).buf]) ([kId] ++ [kSources] ++ [kBuffer])) (xR ([txJ (l.getD (i : Int).toNat c0R).id] ++ [listJ ((l.getD (i : Int).toNat c0R).srcs.map srcJ)] ++ [numJ (l.getD (i : Int).toNat c0R).buf] ++ [numJ (l.getD (i : Int).toNat c0R).mx]) ([kId] ++ [kSources] ++ [kBuffer] ++ [kMaxzoom])) [101, 102] [101, 102] rfl rfl (by decide) (fun _ h => h) (fun k h1 h2 => absurd h1 h2) rfl rfl Tryz.call33 ⟨rfl, rfl, trivial⟩ rfl rfl rfl rfl w2 ?_|refine zbE (f := 33) (xR ([txJ (l.getD (i : Int).toNat c0R).id] ++ [listJ ((l.getD (i : Int).toNat c0R).srcs.map srcJ)] ++ [numJ (l.getD (i : Int).toNat c0R).buf] ++ [numJ (l.getD (i : Int).toNat c0R).mx]) ([kId] ++ [kSources] ++ [kBuffer] ++ [kMaxzoom])) (xR ([txJ (l.getD (i : Int).toNat c0R).id] ++ [listJ ((l.getD (i : Int).toNat c0R).srcs.map srcJ)] ++ [numJ (l.getD (i : Int).toNat c0R).buf] ++ [numJ (l.getD (i : Int).toNat c0R).mx] ++ [numJ (l.getD (i : Int).toNat c0R).lim]) ([kId] ++ [kSources] ++ [kBuffer] ++ [kMaxzoom] ++ [kLimit])) [101, 102] [101, 102] rfl rfl (by decide) (fun _ h => h) (fun k h1 h2 => absurd h1 h2) rfl rfl Tryz.call33 ⟨rfl, rfl, trivial⟩ rfl rfl rfl rfl w3 ?_|with_reducible (first |refine zaK ?_|refine zaj ?_|refine zaL ?_|refine zaB ?_|refine zaO ?_|refine zaD ?_|refine zaC ?_|refine zar ?_|refine zaq ?_|refine zaI ?_|refine zaE ?_|refine zas ?_|refine zaH ?_)|refine zaw rfl rfl True.intro ?_|refine zau rfl rfl rfl ?_|refine zao rfl rfl rfl ?_|refine zag rfl rfl rfl rfl True.intro ?_|refine zaF rfl ?_|refine zat rfl ?_|((first |refine zal rfl ?_ ?_|refine zan rfl ?_ ?_|refine zak rfl ?_ ?_|refine zam rfl ?_ ?_|refine zap rfl ?_ ?_|refine zaA rfl ?_ ?_|refine zad rfl rfl ?_ ?_|refine zae rfl rfl ?_ ?_|refine zaf rfl rfl ?_ ?_|refine zac rfl rfl ?_ ?_|refine zab rfl rfl ?_ ?_)<;>intro<;>try (first |(rename_i hz;first |exact tf_ hz|exact ft_ hz)|(exfalso;omega)))|((first |refine zaw rfl rfl ?_ ?_|refine zag rfl rfl rfl rfl ?_ ?_|refine zaM rfl rfl ?_ ?_|refine zaJ rfl ?_ ?_|refine zaG rfl rfl rfl rfl ?_ ?_);focus (first |omega|exact le_ rfl|((repeat first |rw [zay]|rw [wi6_]|rw [wi3_]|rw [zai]|rw [zah]);(repeat' refine And.intro ?_ ?_)<;>omega)|((repeat' refine And.intro ?_ ?_)<;>first |omega|rfl|exact Nat.le_refl _|exact le_ rfl|exact zaa _)|(simp_all;done)|(simp_all;omega)))|refine zaP rfl ?_|refine zaz rfl ?_|with_reducible refine ⟨by kernel_rfl, ?_⟩|refine zaQ rfl ?_|refine zaT rfl ?_|((with_reducible refine zaN ?_);(fail_if_success (refine zax true rfl rfl rfl ?_));(fail_if_success (refine zax false rfl rfl rfl ?_));refine zav rfl rfl (fun _ => ?_) (fun _ => ?_)))
  all_goals exact ⟨i + 1, ⟨by omega, by omega⟩, by omega, ⟨rfl, rfl, rfl, rfl, trivial⟩, ⟨by rw [g3, e, ← e1]; rfl, by rw [g3]; rfl, trivial⟩, rfl, by rw [hX]; simp⟩

def liveS : SrcR := ⟨[120], [], [], [], [], [], [], false, false⟩
def liveC : CmpR := ⟨[97], [liveS], 0, 3, 0⟩
def liveJ : J := listJ [mapJ [txJ [97], listJ [mapJ [txJ [120]] [kArchive]], .mk 2 false false [] 0 [] [] [], .mk 2 false false [51] 0 [] [] [], .mk 2 false false [] 0 [] [] []] [kId, kSources, kBuffer, kMaxzoom, kLimit]]
theorem zmE : ofF 3 0 = (false, [51], 0) := by
  have e : Lib.decDigits 3 = [51] := by rw [Lib.decDigits, dif_pos (by decide)]; rfl
  unfold ofF
  rw [if_neg (by omega), show (3 : Int).natAbs = 3 from rfl, e]
  decide
theorem zfK : confJ [liveC] = liveJ := by
  show listJ [mapJ [txJ [97], listJ [srcJ liveS], numJ 0, numJ 3, numJ 0] [kId, kSources, kBuffer, kMaxzoom, kLimit]] = _
  unfold numJ
  rw [zmX, zmE]
  rfl
theorem zjF : rightJ 64 liveJ = true := by decide +kernel
theorem zoC : okL [liveC] := by
  have e : decide (okL [liveC]) = true := by decide +kernel
  exact of_decide_eq_true e
theorem zmB : textJ liveJ = [91, 123, 34, 105, 100, 34, 58, 34, 97, 34, 44, 34, 115, 111, 117, 114, 99, 101, 115, 34, 58, 91, 123, 34, 97, 114, 99, 104, 105, 118, 101, 34, 58, 34, 120, 34] ++ [125, 93, 44, 34, 98, 117, 102, 102, 101, 114, 34, 58, 48, 44, 34, 109, 97, 120, 122, 111, 111, 109, 34, 58, 51, 44, 34, 108, 105, 109, 105, 116, 34, 58, 48, 125, 93] := by decide +kernel
theorem zoI : jb liveJ ≤ 1000000 := by decide +kernel

theorem zkm : textC [liveC] = [91, 123, 34, 105, 100, 34, 58, 34, 97, 34, 44, 34, 115, 111, 117, 114, 99, 101, 115, 34, 58, 91, 123, 34, 97, 114, 99, 104, 105, 118, 101, 34, 58, 34, 120, 34] ++ [125, 93, 44, 34, 98, 117, 102, 102, 101, 114, 34, 58, 48, 44, 34, 109, 97, 120, 122, 111, 111, 109, 34, 58, 51, 44, 34, 108, 105, 109, 105, 116, 34, 58, 48, 125, 93] := by
  unfold textC
  rw [if_pos zoC, zfK, if_pos zjF, zmB]
theorem zjW : Weak (.sl 9 1 (chunk 9 [.s [120], .nilS, .s [], .s [], .s [], .nilS, .nilS, .b false, .b false])) (.sl 9 1 (srcF [liveS])) := .sl _ _ _ _ (fun i hi => match i, hi with
    | 0, _ => ⟨rfl, rfl⟩) fun i j hi hj => match i, j, hi, hj with
    | 0, 0, _, _ => .refl _
    | 0, 1, _, _ => .nil 2 _
    | 0, 2, _, _ => .refl _
    | 0, 3, _, _ => .refl _
    | 0, 4, _, _ => .refl _
    | 0, 5, _, _ => .nil 1 _
    | 0, 6, _, _ => .nil 1 _
    | 0, 7, _, _ => .refl _
    | 0, 8, _, _ => .refl _
theorem zkI : Weak (.sl 5 1 (chunk 5 [.s [97], .sl 9 1 (chunk 9 [.s [120], .nilS, .s [], .s [], .s [], .nilS, .nilS, .b false, .b false]), .i .i64 0, .i .i64 3, .i .i64 0])) (.sl 5 1 (cmpF [liveC])) := .sl _ _ _ _ (fun i hi => match i, hi with
    | 0, _ => ⟨rfl, rfl⟩) fun i j hi hj => match i, j, hi, hj with
    | 0, 0, _, _ => .refl _
    | 0, 1, _, _ => zjW
    | 0, 2, _, _ => .refl _
    | 0, 3, _, _ => .refl _
    | 0, 4, _, _ => .refl _
theorem zdS {α : Type} {p : α → Prop} {a d : α} (h1 : p a) (h2 : p d) (i : Nat) : p ([a].getD i d) := match i with
  | 0 => h1
  | _ + 1 => h2
theorem fitS0 : fitS s0R := ⟨Nat.zero_le _, Nat.zero_le _, Nat.zero_le _⟩
theorem bigT0 : bigT [] := Nat.zero_le _
theorem getNil {α : Type} {d : α} (i : Nat) : ([] : List α).getD i d = d := by simp [List.getD_eq_getElem?_getD]
theorem bigS0 : bigS s0R := ⟨bigT0, bigT0, bigT0, bigT0, fun i => by show bigT (([] : List Txt).getD i []); rw [getNil]; exact bigT0, fun i => by show bigT (([] : List Txt).getD i []); rw [getNil]; exact bigT0, fun i => by show bigT (([] : List Fld).getD i ([], [])).1 ∧ bigT (([] : List Fld).getD i ([], [])).2; rw [getNil]; exact ⟨bigT0, bigT0⟩⟩
theorem fitC0 : fitC c0R := ⟨Nat.zero_le _, fun i => by show fitS (([] : List SrcR).getD i s0R); rw [getNil]; exact fitS0⟩
theorem bigC0 : bigC c0R := ⟨bigT0, fun i => by show bigS (([] : List SrcR).getD i s0R); rw [getNil]; exact bigS0⟩
theorem znj : fitL [liveC] := ⟨by decide, zdS ⟨by decide, zdS ⟨by decide, by decide, by decide⟩ fitS0⟩ fitC0⟩
theorem zny : ∀ i, bigC ([liveC].getD i c0R) := zdS ⟨(by show List.length [97] ≤ 1048576; decide), zdS ⟨(by show List.length [120] ≤ 1048576; decide), bigT0, bigT0, bigT0, fun i => by show bigT (([] : List Txt).getD i []); rw [getNil]; exact bigT0, fun i => by show bigT (([] : List Txt).getD i []); rw [getNil]; exact bigT0, fun i => by show bigT (([] : List Fld).getD i ([], [])).1 ∧ bigT (([] : List Fld).getD i ([], [])).2; rw [getNil]; exact ⟨bigT0, bigT0⟩⟩ bigS0⟩ bigC0

set_option maxRecDepth 100000 in
set_option maxHeartbeats 2000000 in
theorem zlD : Ctr Tryz.prog 7 [] (.b true) := by
  have c := (zlA [liveC] znj zny (by rw [zfK]; exact zoI)).weak1 zkI
  rw [zkm] at c
  refine zbe Tryz.func7 rfl Tryz.ntmps7 Tryz.results7 rfl rfl fun X hL hX => ?_
  repeat' (first |refine zaR (f := 16) rfl rfl Tryz.call16 rfl c ?_|with_reducible (first |refine zaK ?_|refine zaj ?_|refine zaL ?_|refine zaB ?_|refine zaO ?_|refine zaD ?_|refine zaC ?_|refine zar ?_|refine zaq ?_|refine zaI ?_|refine zaE ?_|refine zas ?_|refine zaH ?_)|refine zaw rfl rfl True.intro ?_|refine zau rfl rfl rfl ?_|refine zao rfl rfl rfl ?_|refine zag rfl rfl rfl rfl True.intro ?_|refine zaF rfl ?_|refine zat rfl ?_|((first |refine zal rfl ?_ ?_|refine zan rfl ?_ ?_|refine zak rfl ?_ ?_|refine zam rfl ?_ ?_|refine zap rfl ?_ ?_|refine zaA rfl ?_ ?_|refine zad rfl rfl ?_ ?_|refine zae rfl rfl ?_ ?_|refine zaf rfl rfl ?_ ?_|refine zac rfl rfl ?_ ?_|refine zab rfl rfl ?_ ?_)<;>intro<;>try (first |(rename_i hz;first |exact tf_ hz|exact ft_ hz)|(exfalso;omega)))|((first |refine zaw rfl rfl ?_ ?_|refine zag rfl rfl rfl rfl ?_ ?_|refine zaM rfl rfl ?_ ?_|refine zaJ rfl ?_ ?_|refine zaG rfl rfl rfl rfl ?_ ?_);focus (first |omega|exact le_ rfl|((repeat first |rw [zay]|rw [wi6_]|rw [wi3_]|rw [zai]|rw [zah]);(repeat' refine And.intro ?_ ?_)<;>omega)|((repeat' refine And.intro ?_ ?_)<;>first |omega|rfl|exact Nat.le_refl _|exact le_ rfl|exact zaa _)|(simp_all;done)|(simp_all;omega)))|refine zaP rfl ?_|refine zaz rfl ?_|with_reducible refine ⟨by kernel_rfl, ?_⟩|refine zaQ rfl ?_|refine zaT rfl ?_|((with_reducible refine zaN ?_);(fail_if_success (refine zax true rfl rfl rfl ?_));(fail_if_success (refine zax false rfl rfl rfl ?_));refine zav rfl rfl (fun _ => ?_) (fun _ => ?_)))
  all_goals rfl

def yV : Option CmpR → List D
  | none => [.s [], .nilS, .i .i64 0, .i .i64 0, .i .i64 0]
  | some c => cmpP c
theorem zlX : Weak (.sl 5 1 (chunk 5 [.s [], .nilS, .i .i64 0, .i .i64 0, .i .i64 0])) (.sl 5 1 (cmpF [c0R])) := .sl _ _ _ _ (fun i hi => match i, hi with
    | 0, _ => ⟨rfl, rfl⟩) fun i j hi hj => match i, j, hi, hj with
    | 0, 0, _, _ => .refl _
    | 0, 1, _, _ => .nil 9 _
    | 0, 2, _, _ => .refl _
    | 0, 3, _, _ => .refl _
    | 0, 4, _, _ => .refl _
theorem zgl (c : CmpR) : Weak (.sl 5 1 (chunk 5 (cmpP c))) (.sl 5 1 (cmpF [c])) := .sl _ _ _ _ (fun i hi => match i, hi with
    | 0, _ => ⟨rfl, rfl⟩) fun i j hi hj => match i, j, hi, hj with
    | 0, _, _, _ => .refl _
theorem small1 {c : CmpR} (h : smallC c) : smallL [c] := ⟨by simp, zdS h ⟨Nat.zero_le _, fun i => by show smallS (([] : List SrcR).getD i s0R); rw [getNil]; exact zeM fitS0⟩⟩

set_option maxRecDepth 100000 in
set_option maxHeartbeats 8000000 in
theorem zmy (a b : List CmpR) (id : Txt) (ha : smallL a) (hb : smallL b) (hba : ∀ i, bigC (a.getD i c0R)) (hbb : ∀ i, bigC (b.getD i c0R)) (hid : id.length ≤ 4194304) :
    Ctr Tryz.prog 3 [.sl 5 a.length (cmpF a), .sl 5 b.length (cmpF b), .s id] (.b true) := by
  have cl := zlD
  have m1 := zfF a ha hba
  have m2 := zfF b hb hbb
  refine zbe Tryz.func3 rfl Tryz.ntmps3 Tryz.results3 rfl rfl fun X hL hX => ?_
  cases h1 : muchL a with
  | true =>
    rw [h1] at m1
    repeat' (first |refine zaR (f := 6) rfl rfl Tryz.call6 rfl m1 ?_|refine zaR (f := 7) rfl rfl Tryz.call7 rfl cl ?_|with_reducible (first |refine zaK ?_|refine zaj ?_|refine zaL ?_|refine zaB ?_|refine zaO ?_|refine zaD ?_|refine zaC ?_|refine zar ?_|refine zaq ?_|refine zaI ?_|refine zaE ?_|refine zas ?_|refine zaH ?_)|refine zaw rfl rfl True.intro ?_|refine zau rfl rfl rfl ?_|refine zao rfl rfl rfl ?_|refine zag rfl rfl rfl rfl True.intro ?_|refine zaF rfl ?_|refine zat rfl ?_|((first |refine zal rfl ?_ ?_|refine zan rfl ?_ ?_|refine zak rfl ?_ ?_|refine zam rfl ?_ ?_|refine zap rfl ?_ ?_|refine zaA rfl ?_ ?_|refine zad rfl rfl ?_ ?_|refine zae rfl rfl ?_ ?_|refine zaf rfl rfl ?_ ?_|refine zac rfl rfl ?_ ?_|refine zab rfl rfl ?_ ?_)<;>intro<;>try (first |(rename_i hz;first |exact tf_ hz|exact ft_ hz)|(exfalso;omega)))|((first |refine zaw rfl rfl ?_ ?_|refine zag rfl rfl rfl rfl ?_ ?_|refine zaM rfl rfl ?_ ?_|refine zaJ rfl ?_ ?_|refine zaG rfl rfl rfl rfl ?_ ?_);focus (first |omega|exact le_ rfl|((repeat first |rw [zay]|rw [wi6_]|rw [wi3_]|rw [zai]|rw [zah]);(repeat' refine And.intro ?_ ?_)<;>omega)|((repeat' refine And.intro ?_ ?_)<;>first |omega|rfl|exact Nat.le_refl _|exact le_ rfl|exact zaa _)|(simp_all;done)|(simp_all;omega)))|refine zaP rfl ?_|refine zaz rfl ?_|with_reducible refine ⟨by kernel_rfl, ?_⟩|refine zaQ rfl ?_|refine zaT rfl ?_|((with_reducible refine zaN ?_);(fail_if_success (refine zax true rfl rfl rfl ?_));(fail_if_success (refine zax false rfl rfl rfl ?_));refine zav rfl rfl (fun _ => ?_) (fun _ => ?_)))
    all_goals rfl
  | false =>
  rw [h1] at m1
  cases h2 : muchL b with
  | true =>
    rw [h2] at m2
    repeat' (first |refine zaR (f := 6) rfl rfl Tryz.call6 rfl m1 ?_|refine zaY (f := 6) rfl rfl rfl rfl Tryz.call6 rfl m2 ?_|refine zaR (f := 7) rfl rfl Tryz.call7 rfl cl ?_|with_reducible (first |refine zaK ?_|refine zaj ?_|refine zaL ?_|refine zaB ?_|refine zaO ?_|refine zaD ?_|refine zaC ?_|refine zar ?_|refine zaq ?_|refine zaI ?_|refine zaE ?_|refine zas ?_|refine zaH ?_)|refine zaw rfl rfl True.intro ?_|refine zau rfl rfl rfl ?_|refine zao rfl rfl rfl ?_|refine zag rfl rfl rfl rfl True.intro ?_|refine zaF rfl ?_|refine zat rfl ?_|((first |refine zal rfl ?_ ?_|refine zan rfl ?_ ?_|refine zak rfl ?_ ?_|refine zam rfl ?_ ?_|refine zap rfl ?_ ?_|refine zaA rfl ?_ ?_|refine zad rfl rfl ?_ ?_|refine zae rfl rfl ?_ ?_|refine zaf rfl rfl ?_ ?_|refine zac rfl rfl ?_ ?_|refine zab rfl rfl ?_ ?_)<;>intro<;>try (first |(rename_i hz;first |exact tf_ hz|exact ft_ hz)|(exfalso;omega)))|((first |refine zaw rfl rfl ?_ ?_|refine zag rfl rfl rfl rfl ?_ ?_|refine zaM rfl rfl ?_ ?_|refine zaJ rfl ?_ ?_|refine zaG rfl rfl rfl rfl ?_ ?_);focus (first |omega|exact le_ rfl|((repeat first |rw [zay]|rw [wi6_]|rw [wi3_]|rw [zai]|rw [zah]);(repeat' refine And.intro ?_ ?_)<;>omega)|((repeat' refine And.intro ?_ ?_)<;>first |omega|rfl|exact Nat.le_refl _|exact le_ rfl|exact zaa _)|(simp_all;done)|(simp_all;omega)))|refine zaP rfl ?_|refine zaz rfl ?_|with_reducible refine ⟨by kernel_rfl, ?_⟩|refine zaQ rfl ?_|refine zaT rfl ?_|((with_reducible refine zaN ?_);(fail_if_success (refine zax true rfl rfl rfl ?_));(fail_if_success (refine zax false rfl rfl rfl ?_));refine zav rfl rfl (fun _ => ?_) (fun _ => ?_)))
    all_goals rfl
  | false =>
  rw [h2] at m2
  by_cases h3 : 200 < id.length
  · have h3' : (id.length : Int) > 200 := by omega
    repeat' (first |refine zaR (f := 6) rfl rfl Tryz.call6 rfl m1 ?_|refine zaY (f := 6) rfl rfl rfl rfl Tryz.call6 rfl m2 ?_|refine zaR (f := 7) rfl rfl Tryz.call7 rfl cl ?_|with_reducible (first |refine zaK ?_|refine zaj ?_|refine zaL ?_|refine zaB ?_|refine zaO ?_|refine zaD ?_|refine zaC ?_|refine zar ?_|refine zaq ?_|refine zaI ?_|refine zaE ?_|refine zas ?_|refine zaH ?_)|refine zaw rfl rfl True.intro ?_|refine zau rfl rfl rfl ?_|refine zao rfl rfl rfl ?_|refine zag rfl rfl rfl rfl True.intro ?_|refine zaF rfl ?_|refine zat rfl ?_|((first |refine zal rfl ?_ ?_|refine zan rfl ?_ ?_|refine zak rfl ?_ ?_|refine zam rfl ?_ ?_|refine zap rfl ?_ ?_|refine zaA rfl ?_ ?_|refine zad rfl rfl ?_ ?_|refine zae rfl rfl ?_ ?_|refine zaf rfl rfl ?_ ?_|refine zac rfl rfl ?_ ?_|refine zab rfl rfl ?_ ?_)<;>intro<;>try (first |(rename_i hz;first |exact tf_ hz|exact ft_ hz)|(exfalso;omega)))|((first |refine zaw rfl rfl ?_ ?_|refine zag rfl rfl rfl rfl ?_ ?_|refine zaM rfl rfl ?_ ?_|refine zaJ rfl ?_ ?_|refine zaG rfl rfl rfl rfl ?_ ?_);focus (first |omega|exact le_ rfl|((repeat first |rw [zay]|rw [wi6_]|rw [wi3_]|rw [zai]|rw [zah]);(repeat' refine And.intro ?_ ?_)<;>omega)|((repeat' refine And.intro ?_ ?_)<;>first |omega|rfl|exact Nat.le_refl _|exact le_ rfl|exact zaa _)|(simp_all;done)|(simp_all;omega)))|refine zaP rfl ?_|refine zaz rfl ?_|with_reducible refine ⟨by kernel_rfl, ?_⟩|refine zaQ rfl ?_|refine zaT rfl ?_|((with_reducible refine zaN ?_);(fail_if_success (refine zax true rfl rfl rfl ?_));(fail_if_success (refine zax false rfl rfl rfl ?_));refine zav rfl rfl (fun _ => ?_) (fun _ => ?_)))
    all_goals rfl
  have h3' : ¬ (id.length : Int) > 200 := by omega
  have cF := zmx a id ha.1
  have hal : a.length ≤ 4194304 := ha.1
  repeat' (first |refine zaR (f := 6) rfl rfl Tryz.call6 rfl m1 ?_|refine zaY (f := 6) rfl rfl rfl rfl Tryz.call6 rfl m2 ?_|refine zaR (f := 8) rfl rfl Tryz.call8 rfl cF ?_|with_reducible (first |refine zaK ?_|refine zaj ?_|refine zaL ?_|refine zaB ?_|refine zaO ?_|refine zaD ?_|refine zaC ?_|refine zar ?_|refine zaq ?_|refine zaI ?_|refine zaE ?_|refine zas ?_|refine zaH ?_)|refine zaw rfl rfl True.intro ?_|refine zau rfl rfl rfl ?_|refine zao rfl rfl rfl ?_|refine zag rfl rfl rfl rfl True.intro ?_|refine zaF rfl ?_|refine zat rfl ?_|((first |refine zal rfl ?_ ?_|refine zan rfl ?_ ?_|refine zak rfl ?_ ?_|refine zam rfl ?_ ?_|refine zap rfl ?_ ?_|refine zaA rfl ?_ ?_|refine zad rfl rfl ?_ ?_|refine zae rfl rfl ?_ ?_|refine zaf rfl rfl ?_ ?_|refine zac rfl rfl ?_ ?_|refine zab rfl rfl ?_ ?_)<;>intro<;>try (first |(rename_i hz;first |exact tf_ hz|exact ft_ hz)|(exfalso;omega)))|((first |refine zaw rfl rfl ?_ ?_|refine zag rfl rfl rfl rfl ?_ ?_|refine zaM rfl rfl ?_ ?_|refine zaJ rfl ?_ ?_|refine zaG rfl rfl rfl rfl ?_ ?_);focus (first |omega|exact le_ rfl|((repeat first |rw [zay]|rw [wi6_]|rw [wi3_]|rw [zai]|rw [zah]);(repeat' refine And.intro ?_ ?_)<;>omega)|((repeat' refine And.intro ?_ ?_)<;>first |omega|rfl|exact Nat.le_refl _|exact le_ rfl|exact zaa _)|(simp_all;done)|(simp_all;omega)))|refine zaP rfl ?_|refine zaz rfl ?_|with_reducible refine ⟨by kernel_rfl, ?_⟩|refine zaQ rfl ?_|refine zaT rfl ?_|((with_reducible refine zaN ?_);(fail_if_success (refine zax true rfl rfl rfl ?_));(fail_if_success (refine zax false rfl rfl rfl ?_));refine zav rfl rfl (fun _ => ?_) (fun _ => ?_)))
  clear cF m1 m2
  refine T.loop hL (fun z : Nat × Option CmpR => [(0, .sl 5 a.length (cmpF a)), (1, .sl 5 b.length (cmpF b)), (2, .s id), (7, .pv 7 0), (8, .b (findC a id).2), (9, .b z.2.isSome), (10, .pv 10 0), (11, .i .i64 z.1)]) (fun z => [(7, .var (cmpP (findC a id).1)), (10, .var (yV z.2))])
    (fun z => z.1 ≤ a.length ∧ (z.2 = none → findC a id = findC (a.drop z.1) id) ∧ (∀ c, z.2 = some c → findC a id = (c, true) ∧ smallC c)) (fun z => if z.2.isSome then 0 else a.length - z.1 + 1) (0, none) ⟨Nat.zero_le _, fun _ => rfl, fun c h => by cases h⟩
    ⟨⟨rfl, rfl, rfl, rfl, rfl, rfl, rfl, rfl, trivial⟩, ⟨rfl, rfl, trivial⟩, rfl, by rw [hX]; simp⟩ ?_
  rintro ⟨i, y⟩ ⟨g1, g2, g3⟩
  try dsimp only at g1 g2 g3 ⊢
  have hnat : (i : Int).toNat = i := Int.toNat_natCast i
  have n1 := zhy id hid
  have n2 := zlm id hid
  have s1 := zhH a b ha hb
  have s2 := zdW a b ha hb
  have s3 := zhH a a ha ha
  rw [decide_eq_true rfl] at s3
  cases y with
  | some c =>
    obtain ⟨g4, g5⟩ := g3 c rfl
    rw [g4]
    have t1 := (zdW [c] [c] (small1 g5) (small1 g5)).weak2 (zgl c) (zgl c)
    rw [decide_eq_true rfl] at t1
    clear g2 g3 g4
    repeat' (first |refine zaY (f := 9) rfl rfl rfl rfl Tryz.call9 rfl t1 ?_|refine zaY (f := 10) rfl rfl rfl rfl Tryz.call10 rfl n1 ?_|refine zaY (f := 11) rfl rfl rfl rfl Tryz.call11 rfl n2 ?_|refine zaY (f := 12) rfl rfl rfl rfl Tryz.call12 rfl s1 ?_|refine zaY (f := 9) rfl rfl rfl rfl Tryz.call9 rfl s2 ?_|refine zaY (f := 12) rfl rfl rfl rfl Tryz.call12 rfl s3 ?_|refine zaY (f := 7) rfl rfl rfl rfl Tryz.call7 rfl cl ?_|with_reducible (first |refine zaK ?_|refine zaj ?_|refine zaL ?_|refine zaB ?_|refine zaO ?_|refine zaD ?_|refine zaC ?_|refine zar ?_|refine zaq ?_|refine zaI ?_|refine zaE ?_|refine zas ?_|refine zaH ?_)|refine zaw rfl rfl True.intro ?_|refine zau rfl rfl rfl ?_|refine zao rfl rfl rfl ?_|refine zag rfl rfl rfl rfl True.intro ?_|refine zaF rfl ?_|refine zat rfl ?_|((first |refine zal rfl ?_ ?_|refine zan rfl ?_ ?_|refine zak rfl ?_ ?_|refine zam rfl ?_ ?_|refine zap rfl ?_ ?_|refine zaA rfl ?_ ?_|refine zad rfl rfl ?_ ?_|refine zae rfl rfl ?_ ?_|refine zaf rfl rfl ?_ ?_|refine zac rfl rfl ?_ ?_|refine zab rfl rfl ?_ ?_)<;>intro<;>try (first |(rename_i hz;first |exact tf_ hz|exact ft_ hz)|(exfalso;omega)))|((first |refine zaw rfl rfl ?_ ?_|refine zag rfl rfl rfl rfl ?_ ?_|refine zaM rfl rfl ?_ ?_|refine zaJ rfl ?_ ?_|refine zaG rfl rfl rfl rfl ?_ ?_);focus (first |omega|exact le_ rfl|((repeat first |rw [zay]|rw [wi6_]|rw [wi3_]|rw [zai]|rw [zah]);(repeat' refine And.intro ?_ ?_)<;>omega)|((repeat' refine And.intro ?_ ?_)<;>first |omega|rfl|exact Nat.le_refl _|exact le_ rfl|exact zaa _)|(simp_all;done)|(simp_all;omega)))|refine zaP rfl ?_|refine zaz rfl ?_|with_reducible refine ⟨by kernel_rfl, ?_⟩|refine zaQ rfl ?_|refine zaT rfl ?_|((with_reducible refine zaN ?_);(fail_if_success (refine zax true rfl rfl rfl ?_));(fail_if_success (refine zax false rfl rfl rfl ?_));refine zav rfl rfl (fun _ => ?_) (fun _ => ?_)))
    all_goals first
      | rfl
      | (exfalso; rename_i q; exact q rfl)
      | trace_state
  | none =>
    clear g3
    have g2 := g2 rfl
    by_cases hlt : i < a.length
    rotate_left
    · rw [zhF hlt] at g2
      rw [g2]
      have h0 : smallC c0R := ⟨Nat.zero_le _, fun i => by show smallS (([] : List SrcR).getD i s0R); rw [getNil]; exact zeM fitS0⟩
      have t1 := (zdW [c0R] [c0R] (small1 h0) (small1 h0)).weak2 (zgl c0R) zlX
      rw [decide_eq_true rfl] at t1
      have hlt' : ¬ (i : Int) < a.length := by omega
      clear g2
      repeat' (first |refine zaY (f := 9) rfl rfl rfl rfl Tryz.call9 rfl t1 ?_|refine zaY (f := 10) rfl rfl rfl rfl Tryz.call10 rfl n1 ?_|refine zaY (f := 11) rfl rfl rfl rfl Tryz.call11 rfl n2 ?_|refine zaY (f := 12) rfl rfl rfl rfl Tryz.call12 rfl s1 ?_|refine zaY (f := 9) rfl rfl rfl rfl Tryz.call9 rfl s2 ?_|refine zaY (f := 12) rfl rfl rfl rfl Tryz.call12 rfl s3 ?_|refine zaY (f := 7) rfl rfl rfl rfl Tryz.call7 rfl cl ?_|with_reducible (first |refine zaK ?_|refine zaj ?_|refine zaL ?_|refine zaB ?_|refine zaO ?_|refine zaD ?_|refine zaC ?_|refine zar ?_|refine zaq ?_|refine zaI ?_|refine zaE ?_|refine zas ?_|refine zaH ?_)|refine zaw rfl rfl True.intro ?_|refine zau rfl rfl rfl ?_|refine zao rfl rfl rfl ?_|refine zag rfl rfl rfl rfl True.intro ?_|refine zaF rfl ?_|refine zat rfl ?_|((first |refine zal rfl ?_ ?_|refine zan rfl ?_ ?_|refine zak rfl ?_ ?_|refine zam rfl ?_ ?_|refine zap rfl ?_ ?_|refine zaA rfl ?_ ?_|refine zad rfl rfl ?_ ?_|refine zae rfl rfl ?_ ?_|refine zaf rfl rfl ?_ ?_|refine zac rfl rfl ?_ ?_|refine zab rfl rfl ?_ ?_)<;>intro<;>try (first |(rename_i hz;first |exact tf_ hz|exact ft_ hz)|(exfalso;omega)))|((first |refine zaw rfl rfl ?_ ?_|refine zag rfl rfl rfl rfl ?_ ?_|refine zaM rfl rfl ?_ ?_|refine zaJ rfl ?_ ?_|refine zaG rfl rfl rfl rfl ?_ ?_);focus (first |omega|exact le_ rfl|((repeat first |rw [zay]|rw [wi6_]|rw [wi3_]|rw [zai]|rw [zah]);(repeat' refine And.intro ?_ ?_)<;>omega)|((repeat' refine And.intro ?_ ?_)<;>first |omega|rfl|exact Nat.le_refl _|exact le_ rfl|exact zaa _)|(simp_all;done)|(simp_all;omega)))|refine zaP rfl ?_|refine zaz rfl ?_|with_reducible refine ⟨by kernel_rfl, ?_⟩|refine zaQ rfl ?_|refine zaT rfl ?_|((with_reducible refine zaN ?_);(fail_if_success (refine zax true rfl rfl rfl ?_));(fail_if_success (refine zax false rfl rfl rfl ?_));refine zav rfl rfl (fun _ => ?_) (fun _ => ?_)))
      all_goals first
        | rfl
        | (exfalso; rename_i q; exact q rfl)
        | trace_state
    clear n1 n2 s1 s2 s3 cl
    have hlt' : (i : Int) < a.length := by omega
    by_cases he : (a.getD i c0R).id = id
    · have e : findC (a.drop i) id = (a.getD (i : Int).toNat c0R, true) := by rw [hnat]; exact zgR hlt he
      have he' : ¬ ((a.getD (i : Int).toNat c0R).id == id) = false := by
        rw [Int.toNat_natCast]
        exact fun h => beq_eq_false_iff_ne.1 h he
      have hsm : smallC (a.getD (i : Int).toNat c0R) := ha.2 _
      repeat' (first |with_reducible (first |refine zaK ?_|refine zaj ?_|refine zaL ?_|refine zaB ?_|refine zaO ?_|refine zaD ?_|refine zaC ?_|refine zar ?_|refine zaq ?_|refine zaI ?_|refine zaE ?_|refine zas ?_|refine zaH ?_)|refine zaw rfl rfl True.intro ?_|refine zau rfl rfl rfl ?_|refine zao rfl rfl rfl ?_|refine zag rfl rfl rfl rfl True.intro ?_|refine zaF rfl ?_|refine zat rfl ?_|((first |refine zal rfl ?_ ?_|refine zan rfl ?_ ?_|refine zak rfl ?_ ?_|refine zam rfl ?_ ?_|refine zap rfl ?_ ?_|refine zaA rfl ?_ ?_|refine zad rfl rfl ?_ ?_|refine zae rfl rfl ?_ ?_|refine zaf rfl rfl ?_ ?_|refine zac rfl rfl ?_ ?_|refine zab rfl rfl ?_ ?_)<;>intro<;>try (first |contradiction|(exfalso;omega)))|((first |refine zaw rfl rfl ?_ ?_|refine zag rfl rfl rfl rfl ?_ ?_|refine zaM rfl rfl ?_ ?_|refine zaJ rfl ?_ ?_|refine zaG rfl rfl rfl rfl ?_ ?_);focus (first |omega|exact le_ rfl|((repeat first |rw [zay]|rw [wi6_]|rw [wi3_]|rw [zai]|rw [zah]);(repeat' refine And.intro ?_ ?_)<;>omega)|((repeat' refine And.intro ?_ ?_)<;>first |omega|rfl|exact Nat.le_refl _|exact le_ rfl|exact zaa _)|(simp_all;done)|(simp_all;omega)))|refine zaP rfl ?_|refine zaz rfl ?_|with_reducible refine ⟨by kernel_rfl, ?_⟩|refine zaQ rfl ?_|refine zaT rfl ?_|((with_reducible refine zaN ?_);(fail_if_success (refine zax true rfl rfl rfl ?_));(fail_if_success (refine zax false rfl rfl rfl ?_));refine zav rfl rfl (fun _ => ?_) (fun _ => ?_)))
      all_goals exact ⟨(i + 1, some (a.getD (i : Int).toNat c0R)), ⟨by dsimp only; omega, fun h => (by cases h), fun c h => (by cases h; exact ⟨g2.trans e, hsm⟩)⟩, by simp, ⟨rfl, rfl, rfl, rfl, rfl, rfl, rfl, rfl, trivial⟩, ⟨rfl, rfl, trivial⟩, rfl, by rw [hX]; simp⟩
    · have e := zfC hlt he
      have he' : ¬ ((a.getD (i : Int).toNat c0R).id == id) = true := by
        rw [Int.toNat_natCast]
        exact fun h => he (beq_iff_eq.1 h)
      repeat' (first |with_reducible (first |refine zaK ?_|refine zaj ?_|refine zaL ?_|refine zaB ?_|refine zaO ?_|refine zaD ?_|refine zaC ?_|refine zar ?_|refine zaq ?_|refine zaI ?_|refine zaE ?_|refine zas ?_|refine zaH ?_)|refine zaw rfl rfl True.intro ?_|refine zau rfl rfl rfl ?_|refine zao rfl rfl rfl ?_|refine zag rfl rfl rfl rfl True.intro ?_|refine zaF rfl ?_|refine zat rfl ?_|((first |refine zal rfl ?_ ?_|refine zan rfl ?_ ?_|refine zak rfl ?_ ?_|refine zam rfl ?_ ?_|refine zap rfl ?_ ?_|refine zaA rfl ?_ ?_|refine zad rfl rfl ?_ ?_|refine zae rfl rfl ?_ ?_|refine zaf rfl rfl ?_ ?_|refine zac rfl rfl ?_ ?_|refine zab rfl rfl ?_ ?_)<;>intro<;>try (first |contradiction|(exfalso;omega)))|((first |refine zaw rfl rfl ?_ ?_|refine zag rfl rfl rfl rfl ?_ ?_|refine zaM rfl rfl ?_ ?_|refine zaJ rfl ?_ ?_|refine zaG rfl rfl rfl rfl ?_ ?_);focus (first |omega|exact le_ rfl|((repeat first |rw [zay]|rw [wi6_]|rw [wi3_]|rw [zai]|rw [zah]);(repeat' refine And.intro ?_ ?_)<;>omega)|((repeat' refine And.intro ?_ ?_)<;>first |omega|rfl|exact Nat.le_refl _|exact le_ rfl|exact zaa _)|(simp_all;done)|(simp_all;omega)))|refine zaP rfl ?_|refine zaz rfl ?_|with_reducible refine ⟨by kernel_rfl, ?_⟩|refine zaQ rfl ?_|refine zaT rfl ?_|((with_reducible refine zaN ?_);(fail_if_success (refine zax true rfl rfl rfl ?_));(fail_if_success (refine zax false rfl rfl rfl ?_));refine zav rfl rfl (fun _ => ?_) (fun _ => ?_)))
      all_goals first
        | exact ⟨(i + 1, none), ⟨by dsimp only; omega, fun _ => g2.trans e, fun c h => (by cases h)⟩, by simp; omega, ⟨rfl, rfl, rfl, rfl, rfl, rfl, rfl, rfl, trivial⟩, ⟨rfl, rfl, trivial⟩, rfl, by rw [hX]; simp⟩
        | trace_state

end Go.Proofs.YtcajofhafpkbdaaGreatDoor.Flow
