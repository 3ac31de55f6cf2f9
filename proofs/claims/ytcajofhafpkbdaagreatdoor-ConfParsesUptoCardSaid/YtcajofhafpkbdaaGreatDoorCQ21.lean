/- The texts G17, U10, U11, U12, J2p, U13, U14, U15, U16, one behind the other. -/
import Derived.Test.YtcajofhafpkbdaaGreatDoorCQ10
import Derived.Test.YtcajofhafpkbdaaGreatDoorCQ19
import Derived.Test.YtcajofhafpkbdaaGreatDoorCQ20
namespace Go.Proofs.YtcajofhafpkbdaaGreatDoor.Flow
open Go
theorem new2 {ow : Ow} (h1 : look 101 ow = none) (h2 : look 102 ow = none) : ∀ k ∈ [101, 102], k ∉ ([] : List Nat) → look k ow = none := fun k h _ => by
  rcases List.mem_cons.1 h with rfl | h
  · exact h1
  rcases List.mem_cons.1 h with rfl | h
  · exact h2
  cases h
def kArchive : Txt := [97, 114, 99, 104, 105, 118, 101]
def kLayers : Txt := [108, 97, 121, 101, 114, 115]
def kCsv : Txt := [99, 115, 118]
def kKey : Txt := [107, 101, 121]
def kAttr : Txt := [97, 116, 116, 114]
def kOnly : Txt := [111, 110, 108, 121]
def kNot : Txt := [110, 111, 116]
def kTexts : Txt := [116, 101, 120, 116, 115]
def kDrop : Txt := [100, 114, 111, 112]
def layJ (p : Fld) : J := listJ ([p.1, p.2].map txJ)
def srcV1 (s : SrcR) : List J := if s.lays = [] then [txJ s.arch] else [txJ s.arch, listJ (s.lays.map layJ)]
def srcK1 (s : SrcR) : List Txt := if s.lays = [] then [kArchive] else [kArchive, kLayers]
def srcJ (s : SrcR) : J := if s.csv = [] then mapJ (srcV1 s) (srcK1 s) else mapJ (srcV1 s ++ [txJ s.csv] ++ [txJ s.key] ++ [txJ s.attr] ++ [listJ (s.only.map txJ)] ++ [listJ (s.notl.map txJ)] ++ [boolJ s.texts] ++ [boolJ s.drop]) (srcK1 s ++ [kCsv] ++ [kKey] ++ [kAttr] ++ [kOnly] ++ [kNot] ++ [kTexts] ++ [kDrop])
theorem znI (s : SrcR) : (srcV1 s).length ≤ 2 := by
  unfold srcV1
  split <;> simp
theorem zoe (s : SrcR) : (srcK1 s).length ≤ 2 := by
  unfold srcK1
  split <;> simp
set_option maxRecDepth 100000 in
set_option maxHeartbeats 8000000 in
theorem zjC (s : SrcR) (hs : fitS s) : Ctr Tryz.prog 32 [.ag (srcP s)] (.ag (jP (srcJ s))) := by
  obtain ⟨s1, s2, s3⟩ := hs
  have oA := zeJ s.arch
  have wA := ziG (txJ s.arch) kArchive
  refine zay Tryz.func32 rfl Tryz.ntmps32 Tryz.results32 rfl rfl fun X hL hX => ?_
  repeat' (first |refine zgg 2 hL (fun _ : Unit => [(1, .pv 1 0), (2, .pv 2 0), (3, .pv 3 0)]) (fun _ => (1, .var (srcP s)) :: (2, .var j0C) :: (3, .var (xG (srcV1 s) (srcK1 s))) :: xR (srcV1 s) (srcK1 s)) (fun _ => True) ?_ ?_|refine T.adoptV 4 6 100 55 8 _ (jF []) rfl rfl rfl ?_|refine zah (f := 34) rfl rfl Tryz.call34 rfl oA ?_|refine zbH (f := 33) [] (xR [txJ s.arch] [kArchive]) [] [101, 102] rfl rfl (by decide) (fun _ h => by cases h) (new2 rfl rfl) rfl rfl Tryz.call33 trivial rfl rfl rfl rfl wA ?_|with_reducible (first |refine zag ?_|refine zaa ?_|refine zaf ?_|refine zad ?_|refine zai ?_|refine zae ?_)|refine zab rfl rfl True.intro ?_|((first |refine zac rfl ?_ ?_)<;>intro)|((first |refine zab rfl rfl ?_ ?_|refine zao rfl rfl ?_ ?_|refine zar rfl ?_ ?_);focus (first |exact le_ rfl|((repeat' refine And.intro ?_ ?_)<;>omega)|((repeat' refine And.intro ?_ ?_)<;>first |rfl|exact Nat.le_refl _)))|fail)
  · have hl : ¬ s.lays = [] := fun h => by
      have h2 : (s.lays.length : Int) > 0 := by assumption
      rw [h] at h2
      simp at h2
    refine T.loop hL (fun i : Nat => [(1, .pv 1 0), (2, .pv 2 0), (3, .pv 3 0), (4, .pv 4 0), (19, .sl 2 s.lays.length (fldF s.lays)), (20, .i .i64 s.lays.length), (21, .i .i64 i)]) (fun i => [(1, .var (srcP s)), (2, .var j0C), (3, .var (xG [txJ s.arch] [kArchive])), (4, .var [.i .i64 4, .b false, .b false, .s [], .i .i64 0, .s [], .gs 100 8 ((s.lays.take i).map layJ).length (jF ((s.lays.take i).map layJ)), .nilS]), (100, .row 55 8 ((s.lays.take i).map layJ).length), (101, .row 55 8 1), (102, .row 9 1 1)])
      (fun i => i ≤ s.lays.length ∧ ((s.lays.take i).map layJ).length = i) (fun i => s.lays.length - i) 0 ⟨Nat.zero_le _, by simp⟩
      ⟨⟨rfl, rfl, rfl, rfl, rfl, rfl, rfl, trivial⟩, ⟨rfl, rfl, rfl, rfl, rfl, rfl, rfl, trivial⟩, rfl, by rw [hX]; simp⟩ ?_
    rintro i ⟨g1, g2⟩
    try dsimp only at g1 g2 ⊢
    have hnat : (i : Int).toNat = i := Int.toNat_natCast i
    by_cases hil : i < s.lays.length
    · have hil' : (i : Int) < s.lays.length := by omega
      have c := (zfS [(s.lays.getD (i : Int).toNat ([], [])).1, (s.lays.getD (i : Int).toNat ([], [])).2] (by simp)).weak1 (zkx _ _)
      have e := zdt (f := layJ) (d := ([], [])) hil
      have e1 := zdI ((s.lays.take i).map layJ) (layJ (s.lays.getD (i : Int).toNat ([], []))) (chunk 8 (jP (layJ (s.lays.getD (i : Int).toNat ([], []))))) (by rw [zla]; rfl)
      have g3 : ((s.lays.take (i + 1)).map layJ).length = ((s.lays.take i).map layJ).length + 1 := by rw [e, List.length_append]; rfl
      rw [hnat] at e1
      repeat' (first |refine T.frzV 6 6 0 _ rfl rfl rfl ?_|refine zoK rfl rfl (le_ rfl) rfl ?_|refine zah (f := 62) rfl rfl Tryz.call62 rfl c ?_|with_reducible (first |refine zag ?_|refine zaa ?_|refine zaf ?_|refine zad ?_|refine zai ?_|refine zae ?_|refine zaq ?_|refine zaD ?_)|refine zab rfl rfl True.intro ?_|((first |refine zac rfl ?_ ?_)<;>intro<;>try (first |(exfalso;omega)))|((first |refine zab rfl rfl ?_ ?_|refine zao rfl rfl ?_ ?_|refine zar rfl ?_ ?_);focus (first |omega|exact le_ rfl|((repeat' refine And.intro ?_ ?_)<;>omega)|((repeat' refine And.intro ?_ ?_)<;>first |omega|rfl|exact Nat.le_refl _|exact le_ rfl)))|with_reducible refine ⟨by kernel_rfl, ?_⟩|fail)
      all_goals exact ⟨i + 1, ⟨by omega, by omega⟩, by omega, ⟨rfl, rfl, rfl, rfl, rfl, rfl, rfl, trivial⟩, ⟨rfl, rfl, rfl, by rw [g3, e, ← e1]; rfl, by rw [g3]; rfl, rfl, rfl, trivial⟩, rfl, by rw [hX]; simp⟩
    have hil' : ¬ (i : Int) < s.lays.length := by omega
    have ea : s.lays.take i = s.lays := List.take_of_length_le (by omega)
    rw [ea]
    have wL := (zby [txJ s.arch] [kArchive] (listJ (s.lays.map layJ)) kLayers (by simp) (by simp)).weakThird (zdE _)
    repeat' (first |refine zbH (f := 33) (xR [txJ s.arch] [kArchive]) (xR ([txJ s.arch] ++ [listJ (s.lays.map layJ)]) ([kArchive] ++ [kLayers])) [101, 102] [101, 102] rfl rfl (by decide) (fun _ h => h) (fun k h1 h2 => absurd h1 h2) rfl rfl Tryz.call33 ⟨rfl, rfl, trivial⟩ rfl rfl rfl rfl wL ?_|with_reducible (first |refine zag ?_|refine zaa ?_|refine zaf ?_|refine zad ?_|refine zaz ?_|refine zaA ?_)|refine zab rfl rfl True.intro ?_|((first |refine zac rfl ?_ ?_)<;>intro<;>try (first |(exfalso;omega)))|((first |refine zab rfl rfl ?_ ?_|refine zar rfl ?_ ?_);focus (first |exact le_ rfl|((repeat' refine And.intro ?_ ?_)<;>omega)|((repeat' refine And.intro ?_ ?_)<;>first |rfl|exact Nat.le_refl _)))|refine zaJ rfl ?_|fail)
    have v1 : srcV1 s = [txJ s.arch] ++ [listJ (s.lays.map layJ)] := if_neg hl
    have k1 : srcK1 s = [kArchive] ++ [kLayers] := if_neg hl
    rw [v1, k1]
    exact ⟨(), trivial, ⟨rfl, rfl, rfl, trivial⟩, ⟨rfl, rfl, rfl, rfl, rfl, trivial⟩, rfl, by rw [hX]; simp⟩
  · have hl : s.lays = [] := by
      have h2 : ¬ (s.lays.length : Int) > 0 := by assumption
      exact List.length_eq_zero_iff.1 (by omega)
    have v1 : srcV1 s = [txJ s.arch] := if_pos hl
    have k1 : srcK1 s = [kArchive] := if_pos hl
    rw [v1, k1]
    exact ⟨(), trivial, ⟨rfl, rfl, rfl, trivial⟩, ⟨rfl, rfl, rfl, rfl, rfl, trivial⟩, rfl, by rw [hX]; simp⟩
  intro _ _
  have hV := znI s
  have hK := zoe s
  unfold srcJ
  generalize srcV1 s = V at *
  generalize srcK1 s = K at *
  have o0 := zeJ s.csv
  have o1 := zeJ s.key
  have o2 := zeJ s.attr
  have l0 := zfS s.only (by omega)
  have l1 := zfS s.notl (by omega)
  have w0 := zby (V) (K) (txJ s.csv) kCsv (by first | omega | (simp only [List.length_append, List.length_cons, List.length_nil]; omega)) (by first | omega | (simp only [List.length_append, List.length_cons, List.length_nil]; omega))
  have w1 := zby (V ++ [txJ s.csv]) (K ++ [kCsv]) (txJ s.key) kKey (by first | omega | (simp only [List.length_append, List.length_cons, List.length_nil]; omega)) (by first | omega | (simp only [List.length_append, List.length_cons, List.length_nil]; omega))
  have w2 := zby (V ++ [txJ s.csv] ++ [txJ s.key]) (K ++ [kCsv] ++ [kKey]) (txJ s.attr) kAttr (by first | omega | (simp only [List.length_append, List.length_cons, List.length_nil]; omega)) (by first | omega | (simp only [List.length_append, List.length_cons, List.length_nil]; omega))
  have w3 := zby (V ++ [txJ s.csv] ++ [txJ s.key] ++ [txJ s.attr]) (K ++ [kCsv] ++ [kKey] ++ [kAttr]) (listJ (s.only.map txJ)) kOnly (by first | omega | (simp only [List.length_append, List.length_cons, List.length_nil]; omega)) (by first | omega | (simp only [List.length_append, List.length_cons, List.length_nil]; omega))
  have w4 := zby (V ++ [txJ s.csv] ++ [txJ s.key] ++ [txJ s.attr] ++ [listJ (s.only.map txJ)]) (K ++ [kCsv] ++ [kKey] ++ [kAttr] ++ [kOnly]) (listJ (s.notl.map txJ)) kNot (by first | omega | (simp only [List.length_append, List.length_cons, List.length_nil]; omega)) (by first | omega | (simp only [List.length_append, List.length_cons, List.length_nil]; omega))
  have w5 := (zby (V ++ [txJ s.csv] ++ [txJ s.key] ++ [txJ s.attr] ++ [listJ (s.only.map txJ)] ++ [listJ (s.notl.map txJ)]) (K ++ [kCsv] ++ [kKey] ++ [kAttr] ++ [kOnly] ++ [kNot]) (boolJ s.texts) kTexts (by first | omega | (simp only [List.length_append, List.length_cons, List.length_nil]; omega)) (by first | omega | (simp only [List.length_append, List.length_cons, List.length_nil]; omega))).weakThird (zgI _)
  have w6 := (zby (V ++ [txJ s.csv] ++ [txJ s.key] ++ [txJ s.attr] ++ [listJ (s.only.map txJ)] ++ [listJ (s.notl.map txJ)] ++ [boolJ s.texts]) (K ++ [kCsv] ++ [kKey] ++ [kAttr] ++ [kOnly] ++ [kNot] ++ [kTexts]) (boolJ s.drop) kDrop (by first | omega | (simp only [List.length_append, List.length_cons, List.length_nil]; omega)) (by first | omega | (simp only [List.length_append, List.length_cons, List.length_nil]; omega))).weakThird (zgI _)
  clear oA wA
  by_cases hc : s.csv = []
  · have hc' : ¬ (s.csv == (⟨#[]⟩ : ByteArray).data.toList) = false := fun h => beq_eq_false_iff_ne.1 h hc
    rw [if_pos hc]
    clear o0 o1 o2 l0 l1 w0 w1 w2 w3 w4 w5 w6
    repeat' (first |with_reducible (first |refine zag ?_|refine zaa ?_|refine zaf ?_|refine zad ?_|refine zaj ?_|refine zai ?_)|refine zab rfl rfl True.intro ?_|((first |refine zbw rfl ?_ ?_)<;>intro<;>try (first |contradiction))|((first |refine zab rfl rfl ?_ ?_|refine zar rfl ?_ ?_);focus (first |exact le_ rfl|((repeat' refine And.intro ?_ ?_)<;>omega)|((repeat' refine And.intro ?_ ?_)<;>first |rfl|exact Nat.le_refl _)))|refine zaB rfl ?_|fail)
    all_goals exact .of_eq rfl
  · have hc' : ¬ (s.csv == (⟨#[]⟩ : ByteArray).data.toList) = true := fun h => hc (beq_iff_eq.1 h)
    rw [if_neg hc]
    repeat' (first |refine zah (f := 34) rfl rfl Tryz.call34 rfl o0 ?_|refine zah (f := 34) rfl rfl Tryz.call34 rfl o1 ?_|refine zah (f := 34) rfl rfl Tryz.call34 rfl o2 ?_|refine zah (f := 62) rfl rfl Tryz.call62 rfl l0 ?_|refine zah (f := 62) rfl rfl Tryz.call62 rfl l1 ?_|refine zbH (f := 33) (xR (V) (K)) (xR (V ++ [txJ s.csv]) (K ++ [kCsv])) [101, 102] [101, 102] rfl rfl (by decide) (fun _ h => h) (fun k h1 h2 => absurd h1 h2) rfl rfl Tryz.call33 ⟨rfl, rfl, trivial⟩ rfl rfl rfl rfl w0 ?_|refine zbH (f := 33) (xR (V ++ [txJ s.csv]) (K ++ [kCsv])) (xR (V ++ [txJ s.csv] ++ [txJ s.key]) (K ++ [kCsv] ++ [kKey])) [101, 102] [101, 102] rfl rfl (by decide) (fun _ h => h) (fun k h1 h2 => absurd h1 h2) rfl rfl Tryz.call33 ⟨rfl, rfl, trivial⟩ rfl rfl rfl rfl w1 ?_|refine zbH (f := 33) (xR (V ++ [txJ s.csv] ++ [txJ s.key]) (K ++ [kCsv] ++ [kKey])) (xR (V ++ [txJ s.csv] ++ [txJ s.key] ++ [txJ s.attr]) (K ++ [kCsv] ++ [kKey] ++ [kAttr])) [101, 102] [101, 102] rfl rfl (by decide) (fun _ h => h) (fun k h1 h2 => absurd h1 h2) rfl rfl Tryz.call33 ⟨rfl, rfl, trivial⟩ rfl rfl rfl rfl w2 ?_|refine zbH (f := 33) (xR (V ++ [txJ s.csv] ++ [txJ s.key] ++ [txJ s.attr]) (K ++ [kCsv] ++ [kKey] ++ [kAttr])) (xR (V ++ [txJ s.csv] ++ [txJ s.key] ++ [txJ s.attr] ++ [listJ (s.only.map txJ)]) (K ++ [kCsv] ++ [kKey] ++ [kAttr] ++ [kOnly])) [101, 102] [101, 102] rfl rfl (by decide) (fun _ h => h) (fun k h1 h2 => absurd h1 h2) rfl rfl Tryz.call33 ⟨rfl, rfl, trivial⟩ rfl rfl rfl rfl w3 ?_|refine zbH (f := 33) (xR (V ++ [txJ s.csv] ++ [txJ s.key] ++ [txJ s.attr] ++ [listJ (s.only.map txJ)]) (K ++ [kCsv] ++ [kKey] ++ [kAttr] ++ [kOnly])) (xR (V ++ [txJ s.csv] ++ [txJ s.key] ++ [txJ s.attr] ++ [listJ (s.only.map txJ)] ++ [listJ (s.notl.map txJ)]) (K ++ [kCsv] ++ [kKey] ++ [kAttr] ++ [kOnly] ++ [kNot])) [101, 102] [101, 102] rfl rfl (by decide) (fun _ h => h) (fun k h1 h2 => absurd h1 h2) rfl rfl Tryz.call33 ⟨rfl, rfl, trivial⟩ rfl rfl rfl rfl w4 ?_|refine zbH (f := 33) (xR (V ++ [txJ s.csv] ++ [txJ s.key] ++ [txJ s.attr] ++ [listJ (s.only.map txJ)] ++ [listJ (s.notl.map txJ)]) (K ++ [kCsv] ++ [kKey] ++ [kAttr] ++ [kOnly] ++ [kNot])) (xR (V ++ [txJ s.csv] ++ [txJ s.key] ++ [txJ s.attr] ++ [listJ (s.only.map txJ)] ++ [listJ (s.notl.map txJ)] ++ [boolJ s.texts]) (K ++ [kCsv] ++ [kKey] ++ [kAttr] ++ [kOnly] ++ [kNot] ++ [kTexts])) [101, 102] [101, 102] rfl rfl (by decide) (fun _ h => h) (fun k h1 h2 => absurd h1 h2) rfl rfl Tryz.call33 ⟨rfl, rfl, trivial⟩ rfl rfl rfl rfl w5 ?_|refine zbH (f := 33) (xR (V ++ [txJ s.csv] ++ [txJ s.key] ++ [txJ s.attr] ++ [listJ (s.only.map txJ)] ++ [listJ (s.notl.map txJ)] ++ [boolJ s.texts]) (K ++ [kCsv] ++ [kKey] ++ [kAttr] ++ [kOnly] ++ [kNot] ++ [kTexts])) (xR (V ++ [txJ s.csv] ++ [txJ s.key] ++ [txJ s.attr] ++ [listJ (s.only.map txJ)] ++ [listJ (s.notl.map txJ)] ++ [boolJ s.texts] ++ [boolJ s.drop]) (K ++ [kCsv] ++ [kKey] ++ [kAttr] ++ [kOnly] ++ [kNot] ++ [kTexts] ++ [kDrop])) [101, 102] [101, 102] rfl rfl (by decide) (fun _ h => h) (fun k h1 h2 => absurd h1 h2) rfl rfl Tryz.call33 ⟨rfl, rfl, trivial⟩ rfl rfl rfl rfl w6 ?_|with_reducible (first |refine zag ?_|refine zaa ?_|refine zaf ?_|refine zad ?_|refine zaj ?_|refine zaD ?_)|refine zab rfl rfl True.intro ?_|((first |refine zbw rfl ?_ ?_)<;>intro<;>try (first |contradiction))|((first |refine zab rfl rfl ?_ ?_|refine zao rfl rfl ?_ ?_|refine zar rfl ?_ ?_);focus (first |exact le_ rfl|((repeat' refine And.intro ?_ ?_)<;>omega)|((repeat' refine And.intro ?_ ?_)<;>first |rfl|exact Nat.le_refl _)))|with_reducible refine ⟨by kernel_rfl, ?_⟩|refine zaB rfl ?_|fail)
    all_goals first
      | exact .of_eq rfl
      | trace_state

def codeR (s : List UInt8) (i : Int) : Int × Int × Int :=
  if (fourG s 4 0 i).2.2 = 0 then
    (if 56320 ≤ (fourG s 4 0 i).1 ∧ (fourG s 4 0 i).1 < 57344 then (0, 0, 3)
    else if (fourG s 4 0 i).1 < 55296 ∨ 57344 ≤ (fourG s 4 0 i).1 then ((fourG s 4 0 i).1, i + 4, 0)
    else if i + 4 < s.length then
      (if at' s (i + 4) = 92 then
        (if i + 5 < s.length then
          (if at' s (i + 5) = 117 then
            (if (fourG s 4 0 (i + 6)).2.2 = 0 then
              (if (fourG s 4 0 (i + 6)).1 < 56320 ∨ 57344 ≤ (fourG s 4 0 (i + 6)).1 then (0, 0, 3) else (pairF (fourG s 4 0 i).1 (fourG s 4 0 (i + 6)).1, i + 10, 0))
            else (0, 0, (fourG s 4 0 (i + 6)).2.2))
          else (0, 0, 3))
        else (0, 0, 2))
      else (0, 0, 3))
    else (0, 0, 2))
  else (0, 0, (fourG s 4 0 i).2.2)
theorem zdY {s : List UInt8} {i e : Int} (h : ¬ e = 0) : fourF s i e = (0, i, e) := if_neg h
theorem zpl {s : List UInt8} {i : Int} : fourF s i 0 = fourG s 4 0 i := if_pos rfl
theorem zjn (c : Int) : failF 0 c = c := if_pos rfl
theorem zcN {e : Int} (h : ¬ e = 0) (c : Int) : failF e c = e := if_neg h
theorem zqO (s : List UInt8) (i : Int) (o : List UInt8) (h0 : 0 ≤ i) (h1 : i ≤ s.length) :
    (codeP s i o).2.2 = (codeR s i).2.2 ∧ ((codeR s i).2.2 = 0 → (codeP s i o).1 = (codeR s i).2.1 ∧ (codeP s i o).2.1 = o ++ utfB (codeR s i).1) := by
  have hr := zba s 4 0 i h0 h1 (by omega)
  unfold codeR
  generalize hx : fourG s 4 0 i = x at hr
  obtain ⟨n, j, e⟩ := x
  dsimp only at hr ⊢
  by_cases he : e = 0
  · subst he
    obtain rfl : j = i + 4 := by have := hr.2.2.2.2.2.2 rfl; omega
    rw [if_pos rfl]
    by_cases c1 : 56320 ≤ n ∧ n < 57344
    · rw [if_pos c1, ziR hx c1.1 (by omega)]
      exact ⟨rfl, fun h => absurd h (by dsimp only; omega)⟩
    rw [if_neg c1]
    by_cases c2 : n < 55296 ∨ 57344 ≤ n
    · rw [if_pos c2, zfJ hx (by omega)]
      exact ⟨rfl, fun _ => ⟨rfl, rfl⟩⟩
    rw [if_neg c2]
    have g1 : 55296 ≤ n := by omega
    have g2 : n ≤ 56319 := by omega
    have half : ∀ m j3 e, lowP s (i + 4) = (m, j3, e) → ¬ e = 0 → (codeP s i o).2.2 = e ∧ (e = 0 → (codeP s i o).1 = 0 ∧ (codeP s i o).2.1 = o ++ utfB 0) := by
      intro m j3 e hl he
      rw [zeD hx g1 g2 hl he]
      exact ⟨rfl, fun h => absurd h he⟩
    by_cases c3 : i + 4 < s.length
    · rw [if_pos c3]
      by_cases c4 : at' s (i + 4) = 92
      · rw [if_pos c4]
        have ha : mustF s (i + 4) 0 92 = (i + 5, 0) := by
          unfold mustF
          rw [zbG rfl c3]
          dsimp only
          rw [if_pos c4, show i + 4 + 1 = i + 5 by omega]
        by_cases c5 : i + 5 < s.length
        · rw [if_pos c5]
          by_cases c6 : at' s (i + 5) = 117
          · rw [if_pos c6]
            have hb : mustF s (i + 5) 0 117 = (i + 6, 0) := by
              unfold mustF
              rw [zbG rfl c5]
              dsimp only
              rw [if_pos c6, show i + 5 + 1 = i + 6 by omega]
            have hr2 := zba s 4 0 (i + 6) (by omega) (by omega) (by omega)
            generalize hy : fourG s 4 0 (i + 6) = y at hr2
            obtain ⟨m, j3, e3⟩ := y
            have hl := zex ha hb (zpl.trans hy)
            dsimp only at hr2 ⊢
            by_cases c7 : e3 = 0
            · subst c7
              obtain rfl : j3 = i + 10 := by have := hr2.2.2.2.2.2.2 rfl; omega
              rw [if_pos rfl]
              by_cases c8 : m < 56320 ∨ 57344 ≤ m
              · rw [if_pos c8]
                rw [if_pos (by omega), zjn] at hl
                exact half _ _ _ hl (by decide)
              · rw [if_neg c8]
                rw [if_neg (by omega)] at hl
                rw [zgN hx g1 g2 hl]
                exact ⟨rfl, fun _ => ⟨rfl, rfl⟩⟩
            · rw [if_neg c7]
              obtain rfl : m = 0 := hr2.2.2.2.2.2.1 c7
              rw [if_pos (by omega), zcN c7] at hl
              exact half _ _ _ hl c7
          · rw [if_neg c6]
            have hb : mustF s (i + 5) 0 117 = (i + 6, 3) := by
              unfold mustF
              rw [zbG rfl c5]
              dsimp only
              rw [if_neg c6, show i + 5 + 1 = i + 6 by omega, zjn]
            have hl := zex ha hb (zdY (by omega))
            rw [if_pos (by omega), zcN (by omega)] at hl
            exact half _ _ _ hl (by decide)
        · rw [if_neg c5]
          have hb : mustF s (i + 5) 0 117 = (i + 5, 2) := by
            unfold mustF
            rw [zbs rfl c5]
            dsimp only
            rw [if_neg (by omega), zcN (by omega)]
          have hl := zex ha hb (zdY (by omega))
          rw [if_pos (by omega), zcN (by omega)] at hl
          exact half _ _ _ hl (by decide)
      · rw [if_neg c4]
        have ha : mustF s (i + 4) 0 92 = (i + 5, 3) := by
          unfold mustF
          rw [zbG rfl c3]
          dsimp only
          rw [if_neg c4, show i + 4 + 1 = i + 5 by omega, zjn]
        have hb : mustF s (i + 5) 3 117 = (i + 5, 3) := by
          unfold mustF
          rw [zco (by omega)]
          dsimp only
          rw [if_neg (by omega), zcN (by omega)]
        have hl := zex ha hb (zdY (by omega))
        rw [if_pos (by omega), zcN (by omega)] at hl
        exact half _ _ _ hl (by decide)
    · rw [if_neg c3]
      have ha : mustF s (i + 4) 0 92 = (i + 4, 2) := by
        unfold mustF
        rw [zbs rfl c3]
        dsimp only
        rw [if_neg (by omega), zcN (by omega)]
      have hb : mustF s (i + 4) 2 117 = (i + 4, 2) := by
        unfold mustF
        rw [zco (by omega)]
        dsimp only
        rw [if_neg (by omega), zcN (by omega)]
      have hl := zex ha hb (zdY (by omega))
      rw [if_pos (by omega), zcN (by omega)] at hl
      exact half _ _ _ hl (by decide)
  · rw [if_neg he, ziv hx he]
    exact ⟨rfl, fun h => absurd h he⟩

def hexD (n : Int) : UInt8 := by8 (if n < 10 then 48 + n else 87 + n)
def qI (n : Int) : List UInt8 :=
  if n = 8 then [92, 98] else if n = 9 then [92, 116] else if n = 10 then [92, 110] else if n = 12 then [92, 102] else if n = 13 then [92, 114]
  else if n = 34 then [92, 34] else if n = 92 then [92, 92] else if n < 32 then [92, 117, 48, 48, hexD (n / 16), hexD (n % 16)] else [by8 n]
def qL : List UInt8 → List UInt8
  | [] => []
  | c :: r => qI (c.toNat : Int) ++ qL r
def quoteL (s : List UInt8) : List UInt8 := if validL s = true then [34] ++ qL s ++ [34] else []
theorem zoH (a b : List UInt8) : qL (a ++ b) = qL a ++ qL b := by
  induction a with
  | nil => rfl
  | cons c r ih => simp [qL, ih]
theorem zrH (s : List UInt8) (i : Nat) (h : i < s.length) : qL (s.take (i + 1)) = qL (s.take i) ++ qI (at' s i) := by
  rw [List.take_add_one, zoH]
  congr 1
  simp [at', h, qL, List.getD_eq_getElem?_getD]
theorem zsB (n : Int) : (qI n).length ≤ 6 := by
  unfold qI
  (repeat' split) <;> simp
theorem znu : ∀ s : List UInt8, (qL s).length ≤ 6 * s.length
  | [] => by simp [qL]
  | c :: r => by
    have := znu r
    have := zsB (c.toNat : Int)
    simp only [qL, List.length_append, List.length_cons]
    omega

section
variable {x r ds : List UInt8} {a : UInt8} {i : Nat}
end
def aheadT (mp first : Bool) (ks : List (List UInt8)) : List UInt8 := (if first = true then [] else [44]) ++ (if mp = true then quoteL (ks.headD []) ++ [58] else [])
section
variable {x b : List UInt8} {a : UInt8} {i : Nat}
abbrev endsNum (a : UInt8) : Prop := isD a = false ∧ ¬ (a.toNat : Int) = 45 ∧ ¬ (a.toNat : Int) = 43 ∧ ¬ (a.toNat : Int) = 46 ∧ ¬ (a.toNat : Int) = 101 ∧ ¬ (a.toNat : Int) = 69
theorem znX (h : isD a = false) : dgT (x ++ a :: b) i = if i ≤ x.length then dgT x i else dgT (x ++ a :: b) i := by
  split
  · rename_i hi
    unfold dgT
    rw [List.drop_append_of_le_length hi]
    generalize x.drop i = q
    induction q with
    | nil => simp [h]
    | cons c q ih =>
      rw [List.cons_append, List.takeWhile_cons, List.takeWhile_cons, ih]
  · rfl
theorem zjI (h : isD a = false) (hi : i ≤ x.length) : dgT (x ++ a :: b) i = dgT x i := by rw [znX h, if_pos hi]
theorem zcU {c : Int} (h : ¬ (a.toNat : Int) = c) (hi : i ≤ x.length) : sat (x ++ a :: b) i c ↔ sat x i c := by
  unfold sat at'
  rw [Int.toNat_natCast]
  by_cases e : i < x.length
  · rw [List.getD_eq_getElem?_getD, List.getElem?_append_left e, ← List.getD_eq_getElem?_getD]
    simp only [List.length_append, List.length_cons, e, true_and]
    exact ⟨fun q => q.2, fun q => ⟨by omega, q⟩⟩
  · have : i = x.length := by omega
    subst this
    constructor
    · intro q
      exfalso
      apply h
      have := q.2
      simpa [List.getD_eq_getElem?_getD] using this
    · intro q
      exact absurd q.1 (Nat.lt_irrefl _)
theorem zqn (h : isD a = false) : ¬ (a.toNat : Int) = 48 := fun q => by
  have : isD a = true := zbY.2 (by omega)
  rw [h] at this
  cases this
theorem zqT (h : isD a = false) (hi : i ≤ x.length) : whN (x ++ a :: b) i = whN x i := by
  unfold whN
  rw [zjI h hi]
  simp only [zcU (zqn h) hi]
theorem zmO (hi : i ≤ x.length) : (whN x i).2 ≤ x.length := by
  unfold whN
  have := zbt x i
  split
  · rename_i q
    have := q.1
    dsimp only
    omega
  · dsimp only
    omega
theorem zqV (h : endsNum a) (hi : i ≤ x.length) : frN (x ++ a :: b) i = frN x i := by
  unfold frN
  simp only [zcU h.2.2.2.1 hi]
  by_cases q : sat x i 46
  · rw [zjI h.1 (show i + 1 ≤ x.length from q.1)]
  · rw [if_neg (fun e => q e.1), if_neg (fun e => q e.1)]
theorem zra (hi : i ≤ x.length) : (frN x i).2 ≤ x.length := by
  unfold frN
  have := zbt x (i + 1)
  split
  · rename_i q
    have := q.1.1
    dsimp only
    omega
  · exact hi
theorem zqY {pw : List UInt8 → Int} (h : endsNum a) (hi : i ≤ x.length) : exN pw (x ++ a :: b) i = exN pw x i := by
  unfold exN
  simp only [zcU h.2.2.2.2.1 hi, zcU h.2.2.2.2.2 hi]
  by_cases q : sat x i 101 ∨ sat x i 69
  · have h1 : i + 1 ≤ x.length := by
      rcases q with q | q
      · exact q.1
      · exact q.1
    have e1 : sgN (x ++ a :: b) (i + 1) = sgN x (i + 1) := by
      unfold sgN
      simp only [zcU h.2.2.1 h1, zcU h.2.1 h1]
    have e2 : sgN x (i + 1) ≤ x.length := by
      unfold sgN
      split
      · rename_i q
        rcases q with q | q
        · exact q.1
        · exact q.1
      · exact h1
    rw [e1, zjI h.1 e2]
    simp only [zcU h.2.1 h1]
  · rw [if_neg (fun e => q e.1), if_neg (fun e => q e.1)]
theorem ziB {pw : List UInt8 → Int} (h : endsNum a) : parseG pw (x ++ a :: b) = parseG pw x := by
  have e0 : sg0 (x ++ a :: b) = sg0 x := by
    unfold sg0
    simp only [zcU (i := 0) h.2.1 (Nat.zero_le _)]
  have l0 : sg0 x ≤ x.length := by
    unfold sg0
    split
    · rename_i q
      exact q.1
    · exact Nat.zero_le _
  unfold parseG
  dsimp only
  rw [e0, zqT h.1 l0, zqV h (zmO l0), zqY h (zra (zmO l0))]
  simp only [zcU (i := 0) h.2.1 (Nat.zero_le _)]
end
theorem zjG {s : List UInt8} (h : validL s = true) : ∃ r, quoteL s = 34 :: r := ⟨qL s ++ [34], by
  have hq : quoteL s = [34] ++ qL s ++ [34] := if_pos h
  rw [hq]
  rfl⟩
section
variable {s r b : List UInt8} {i : Nat} {a : UInt8}
end

theorem zdz {len : Nat} {f : Nat → List D} {l : List UInt8} (hl : len = l.length) (h : ∀ i, i < l.length → f i = bytesF l i) : Weak (.sl 1 len f) (.sl 1 l.length (bytesF l)) := by
  subst hl
  refine .sl _ _ _ _ (fun i hi => ⟨by rw [h i hi], rfl⟩) (fun i j hi hj => .of_eq (by rw [h i hi]))
theorem zic (s : List UInt8) (i : Int) (hs : s.length ≤ 1099511627776) (h0 : 0 ≤ i) (h1 : i ≤ s.length) :
    Ctr Tryz.prog 142 [.s s, .i .i64 i] (.tu [.i .i64 (fourG s 4 0 i).1, .i .i64 (fourG s 4 0 i).2.2]) := by
  generalize hR : fourG s 4 0 i = R
  refine zay Tryz.func142 rfl Tryz.ntmps142 Tryz.results142 rfl rfl fun X hL hX => ?_
  repeat' (first |with_reducible (first |refine zag ?_|refine zaa ?_|refine zaf ?_|refine zad ?_|refine zae ?_)|refine zab rfl rfl True.intro ?_|fail)
  refine T.loop hL (fun x : Nat × Int × Int => [(0, .s s), (1, .i .i64 i), (6, .i .i64 x.2.1), (7, .i .i64 x.2.2)]) (fun _ => [])
    (fun x => x.1 ≤ 4 ∧ 0 ≤ x.2.1 ∧ x.2.1 < 16 ^ x.1 ∧ x.2.2 = i + x.1 ∧ x.2.2 ≤ s.length ∧ fourG s (4 - x.1) x.2.1 x.2.2 = R) (fun x => 4 - x.1) (0, 0, i) (by simp [hR]; omega)
    ⟨⟨rfl, rfl, rfl, rfl, trivial⟩, trivial, rfl, by rw [hX]; intro k hk; cases hk⟩ ?_
  rintro ⟨k, n, j⟩ ⟨g1, g2, g3, g4, g5, g6⟩
  dsimp only at g1 g2 g3 g4 g5 g6 ⊢
  have hr := zaG s j
  have hh := zeQ (at' s j)
  have hpow : k ≤ 3 → (16 : Int) ^ k ≤ 4096 := fun h => by
    have : k = 0 ∨ k = 1 ∨ k = 2 ∨ k = 3 := by omega
    rcases this with rfl | rfl | rfl | rfl <;> decide
  have hn : k ≤ 3 → n < 4096 := fun h => Int.lt_of_lt_of_le g3 (hpow h)
  have hk : j < i + 4 → 4 - k = (3 - k) + 1 := fun h => by omega
  have hk0 : ¬ j < i + 4 → R = (n, j, 0) := fun h => by rw [← g6, show 4 - k = 0 by omega]; rfl
  replace hr := hr
  have g6 := fun _ : Unit => g6
  have g3 := fun _ : Unit => g3
  clear hpow
  repeat' (first |with_reducible (first |refine zag ?_|refine zaa ?_|refine zaf ?_|refine zad ?_|refine zaj ?_|refine zai ?_|refine zaz ?_|refine zae ?_|refine zaq ?_|refine zaA ?_|refine zal ?_|refine zap ?_)|refine zab rfl rfl True.intro ?_|((first |refine zac rfl ?_ ?_)<;>intro)|((first |refine zab rfl rfl ?_ ?_);focus (first |omega|((repeat' refine And.intro ?_ ?_)<;>omega)))|refine zaJ rfl ?_|refine zaw rfl ?_|refine zah (f := 158) rfl rfl Tryz.call158 rfl (zpV (at' s j)) ?_|fail)
  · rw [← g6 (), hk ‹_›, zdK (by omega)]
  · rw [← g6 (), hk ‹_›, zeC (by omega) ‹_›]
  · refine ⟨(k + 1, 16 * n + hexF (at' s j), j + 1), ⟨by dsimp only; omega, by dsimp only; omega, ?_, by dsimp only; omega, by dsimp only; omega, ?_⟩, by dsimp only; omega, ⟨rfl, rfl, rfl, rfl, trivial⟩, trivial, rfl, by rw [hX]; intro k hk; cases hk⟩
    · dsimp only
      rw [Int.pow_succ]
      have := g3 ()
      omega
    · dsimp only
      rw [← g6 (), hk ‹_›, zgy (by omega) ‹_›, show 4 - (k + 1) = 3 - k by omega]
  · rw [hk0 ‹_›]
theorem zbN (n : Int) (h : 0 ≤ n) (h2 : n < 256) : IntKind.u8.wrap n = ((by8 n).toNat : Int) := by
  rw [zcb, zcn n h h2]
  omega
set_option maxHeartbeats 2000000 in
theorem zll (n : Int) (h0 : 0 ≤ n) (h1 : n ≤ 1114111) : Ctr Tryz.prog 117 [.i .i64 n] (.sl 1 (utfB n).length (bytesF (utfB n))) := by
  refine zay Tryz.func117 rfl Tryz.ntmps117 Tryz.results117 rfl rfl fun X hL hX => ?_
  repeat' (first |with_reducible (first |refine zag ?_|refine zaa ?_|refine zaf ?_|refine zad ?_|refine zaj ?_|refine zai ?_|refine zal ?_)|refine zab rfl rfl True.intro ?_|((first |refine zac rfl ?_ ?_)<;>intro)|((first |refine zab rfl rfl ?_ ?_|refine zao rfl rfl ?_ ?_);focus (first |omega|((repeat first |rw [zcb]|rw [wi6_]);(repeat' refine And.intro ?_ ?_)<;>omega)|((repeat' refine And.intro ?_ ?_)<;>first |omega|rfl)))|refine zaB rfl ?_|fail)
  · rw [zob ‹_›]
    refine zdz rfl fun i hi => match i, hi with
      | 0, _ => congrArg (fun z => [D.i .u8 z]) (zbN _ (by omega) (by omega))
  · rw [znN (by omega) (by omega)]
    refine zdz rfl fun i hi => match i, hi with
      | 0, _ => congrArg (fun z => [D.i .u8 z]) (zbN _ (by omega) (by omega))
      | 1, _ => congrArg (fun z => [D.i .u8 z]) (zbN _ (by omega) (by omega))
  · rw [ziz (by omega) (by omega)]
    refine zdz rfl fun i hi => match i, hi with
      | 0, _ => congrArg (fun z => [D.i .u8 z]) (zbN _ (by omega) (by omega))
      | 1, _ => congrArg (fun z => [D.i .u8 z]) (zbN _ (by omega) (by omega))
      | 2, _ => congrArg (fun z => [D.i .u8 z]) (zbN _ (by omega) (by omega))
  · rw [znk (by omega)]
    refine zdz rfl fun i hi => match i, hi with
      | 0, _ => congrArg (fun z => [D.i .u8 z]) (zbN _ (by omega) (by omega))
      | 1, _ => congrArg (fun z => [D.i .u8 z]) (zbN _ (by omega) (by omega))
      | 2, _ => congrArg (fun z => [D.i .u8 z]) (zbN _ (by omega) (by omega))
      | 3, _ => congrArg (fun z => [D.i .u8 z]) (zbN _ (by omega) (by omega))

theorem zsu : at' ({ data := #[92, 117] } : ByteArray).data.toList (4 - 4) = 92 := by decide
theorem zsk : at' ({ data := #[92, 117] } : ByteArray).data.toList (5 - 4) = 117 := by decide
set_option maxHeartbeats 1000000 in
theorem zof (s : List UInt8) (i : Int) (hs : s.length ≤ 1099511627776) (h0 : 0 ≤ i) (h1 : i ≤ s.length) :
    Ctr Tryz.prog 116 [.s s, .i .i64 i] (.tu [.i .i64 (codeR s i).1, .i .i64 (codeR s i).2.1, .i .i64 (codeR s i).2.2]) := by
  have c1 := zic s i hs h0 h1
  have r1 := zba s 4 0 i h0 h1 (by omega)
  have c2 : i + 6 ≤ s.length → _ := fun h => zic s (i + 6) hs (by omega) (by omega)
  have r2 : i + 6 ≤ s.length → _ := fun h => zba s 4 0 (i + 6) (by omega) (by omega) (by omega)
  generalize hR : codeR s i = R
  unfold codeR at hR
  generalize fourG s 4 0 i = x at c1 r1 hR
  generalize fourG s 4 0 (i + 6) = y at c2 r2 hR
  obtain ⟨n, j, e⟩ := x
  obtain ⟨m, j2, f⟩ := y
  dsimp only at c1 r1 c2 r2 hR
  have rn : 0 ≤ n ∧ n < 65536 := by omega
  have rm : i + 6 ≤ s.length → 0 ≤ m ∧ m < 65536 := fun h => by have := r2 h; omega
  clear r1 r2
  replace hR := fun _ : Unit => hR.symm
  refine zay Tryz.func116 rfl Tryz.ntmps116 Tryz.results116 rfl rfl fun X hL hX => ?_
  repeat' (first |with_reducible (first |refine zag ?_|refine zaa ?_|refine zaf ?_|refine zad ?_|refine zaj ?_|refine zai ?_|refine zae ?_|refine zal ?_)|refine zab rfl rfl True.intro ?_|refine zau rfl rfl rfl ?_|refine zam rfl rfl rfl rfl True.intro ?_|refine zas rfl ?_|refine zak rfl ?_|((first |refine zac rfl ?_ ?_|refine zat rfl ?_ ?_|refine zan rfl rfl ?_ ?_)<;>intro<;>try (first |(exfalso;omega)))|((first |refine zab rfl rfl ?_ ?_);focus (first |omega|((repeat' refine And.intro ?_ ?_)<;>omega)))|refine zaw rfl ?_|refine zah (f := 142) rfl rfl Tryz.call142 rfl c1 ?_|fail)
  · rw [hR (), if_neg ‹_›]
  · rw [hR (), if_pos ‹_›, if_pos ⟨‹_›, ‹_›⟩]
  · rw [hR (), if_pos ‹_›, if_neg (by omega), if_pos (by omega)]
  · rw [hR (), if_pos ‹_›, if_neg (by omega), if_pos (by omega)]
  have g1 : 56320 ≤ n ∧ n < 57344 → False := fun h => by omega
  have hR : Unit → R = _ := fun _ => (hR ()).trans ((if_pos ‹_›).trans ((if_neg g1).trans (if_neg (by omega))))
  refine T.loop hL (fun k : Int => [(0, .s s), (1, .i .i64 i), (7, .i .i64 n), (9, .i .i64 k)]) (fun _ => []) (fun k => k = 4 ∨ k = 5 ∧ i + 4 < s.length ∧ at' s (i + 4) = 92 ∨ k = 6 ∧ i + 4 < s.length ∧ at' s (i + 4) = 92 ∧ i + 5 < s.length ∧ at' s (i + 5) = 117) (fun k => (6 - k).toNat) 4 (.inl rfl)
    ⟨⟨rfl, rfl, rfl, rfl, trivial⟩, trivial, rfl, by rw [hX]; intro k hk; cases hk⟩ ?_
  intro k hk
  have q0 := zsu
  have q1 := zsk
  rcases hk with rfl | ⟨rfl, k1, k2⟩ | ⟨rfl, k1, k2, k3, k4⟩
  · have hr := zaG s (i + 4)
    repeat' (first |with_reducible (first |refine zag ?_|refine zaa ?_|refine zaf ?_|refine zad ?_|refine zaj ?_|refine zai ?_|refine zae ?_|refine zaq ?_|refine zal ?_|refine zap ?_|refine zaD ?_)|refine zab rfl rfl True.intro ?_|refine zas rfl ?_|((first |refine zac rfl ?_ ?_|refine zat rfl ?_ ?_)<;>intro)|((first |refine zab rfl rfl ?_ ?_);focus (first |omega|((repeat' refine And.intro ?_ ?_)<;>omega)|((repeat' refine And.intro ?_ ?_)<;>first |omega)|(simp_all;done)))|with_reducible refine ⟨by kernel_rfl, ?_⟩|refine zaw rfl ?_|fail)
    · rw [hR (), if_neg (by omega)]
    · rw [hR (), if_pos (by omega), if_neg (by omega)]
    · exact ⟨5, .inr (.inl ⟨rfl, by omega, by omega⟩), by decide, ⟨rfl, rfl, rfl, rfl, trivial⟩, trivial, rfl, by rw [hX]; intro k hk; cases hk⟩
  ·
    repeat' (first |with_reducible (first |refine zag ?_|refine zaa ?_|refine zaf ?_|refine zad ?_|refine zaj ?_|refine zai ?_|refine zae ?_|refine zaq ?_|refine zal ?_|refine zap ?_|refine zaD ?_)|refine zab rfl rfl True.intro ?_|refine zas rfl ?_|((first |refine zac rfl ?_ ?_|refine zat rfl ?_ ?_)<;>intro)|((first |refine zab rfl rfl ?_ ?_);focus (first |omega|((repeat' refine And.intro ?_ ?_)<;>omega)|((repeat' refine And.intro ?_ ?_)<;>first |omega)|(simp_all;done)))|with_reducible refine ⟨by kernel_rfl, ?_⟩|refine zaw rfl ?_|fail)
    · rw [hR (), if_pos k1, if_pos k2, if_neg (by omega)]
    · rw [hR (), if_pos k1, if_pos k2, if_pos (by omega), if_neg (by omega)]
    · exact ⟨6, .inr (.inr ⟨rfl, by omega, by omega, by omega, by omega⟩), by decide, ⟨rfl, rfl, rfl, rfl, trivial⟩, trivial, rfl, by rw [hX]; intro k hk; cases hk⟩
  · have c2 := c2 (by omega)
    have rm := rm (by omega)
    repeat' (first |with_reducible (first |refine zag ?_|refine zaa ?_|refine zaf ?_|refine zad ?_|refine zaj ?_|refine zai ?_|refine zaz ?_|refine zaA ?_|refine zal ?_)|refine zab rfl rfl True.intro ?_|refine zau rfl rfl rfl ?_|refine zam rfl rfl rfl rfl True.intro ?_|refine zas rfl ?_|refine zak rfl ?_|((first |refine zac rfl ?_ ?_|refine zat rfl ?_ ?_|refine zan rfl rfl ?_ ?_)<;>intro)|((first |refine zab rfl rfl ?_ ?_);focus (first |omega|((repeat' refine And.intro ?_ ?_)<;>omega)))|refine zaJ rfl ?_|refine zaw rfl ?_|refine zah (f := 142) rfl rfl Tryz.call142 rfl c2 ?_|fail)
    · rw [hR (), if_pos k1, if_pos k2, if_pos k3, if_pos k4, if_neg ‹_›]
    · rw [hR (), if_pos k1, if_pos k2, if_pos k3, if_pos k4, if_pos ‹_›, if_pos (by omega)]
    · rw [hR (), if_pos k1, if_pos k2, if_pos k3, if_pos k4, if_pos ‹_›, if_pos (by omega)]
    · rw [hR (), if_pos k1, if_pos k2, if_pos k3, if_pos k4, if_pos ‹_›, if_neg (by omega)]
      rfl
theorem zjH (s : List UInt8) (i : Int) (h0 : 0 ≤ i) (h1 : i ≤ s.length) : 0 ≤ (codeR s i).1 ∧ (codeR s i).1 ≤ 1114111 ∧ ((codeR s i).2.2 = 0 → i + 4 ≤ (codeR s i).2.1 ∧ (codeR s i).2.1 ≤ s.length) := by
  have r1 := zba s 4 0 i h0 h1 (by omega)
  have r2 : i + 6 ≤ s.length → _ := fun h => zba s 4 0 (i + 6) (by omega) (by omega) (by omega)
  unfold codeR
  generalize fourG s 4 0 i = x at r1 ⊢
  generalize fourG s 4 0 (i + 6) = y at r2 ⊢
  obtain ⟨n, j, e⟩ := x
  obtain ⟨m, j2, f⟩ := y
  dsimp only at r1 r2 ⊢
  obtain ⟨a1, a2, a3, a4, a5, a6, a7⟩ := r1
  split
  · split
    · dsimp only; omega
    · split
      · dsimp only; omega
      · split
        · split
          · split
            · split
              · obtain ⟨b1, b2, b3, b4, b5, b6, b7⟩ := r2 (by omega)
                split
                · split
                  · dsimp only; omega
                  · dsimp only [pairF]; omega
                · dsimp only; omega
              · dsimp only; omega
            · dsimp only; omega
          · dsimp only; omega
        · dsimp only; omega
  · dsimp only; omega

abbrev escFrom : List UInt8 := [34, 92, 47, 98, 102, 110, 114, 116]
abbrev escTo : List UInt8 := [34, 92, 47, 8, 12, 10, 13, 9]
def whichF (k : Int) : Nat → Int
  | 0 => -1
  | j + 1 => if at' escFrom j = k then j else whichF k j
theorem zoS (k : Int) : (whichF k 8 = -1 ∧ escE k = 3) ∨ (0 ≤ whichF k 8 ∧ whichF k 8 < 8 ∧ escE k = 0 ∧ at' escTo (whichF k 8) = escV k) := by
  have a0 : at' escFrom ((0 : Nat) : Int) = 34 := by decide
  have a1 : at' escFrom ((1 : Nat) : Int) = 92 := by decide
  have a2 : at' escFrom ((2 : Nat) : Int) = 47 := by decide
  have a3 : at' escFrom ((3 : Nat) : Int) = 98 := by decide
  have a4 : at' escFrom ((4 : Nat) : Int) = 102 := by decide
  have a5 : at' escFrom ((5 : Nat) : Int) = 110 := by decide
  have a6 : at' escFrom ((6 : Nat) : Int) = 114 := by decide
  have a7 : at' escFrom ((7 : Nat) : Int) = 116 := by decide
  by_cases c0 : k = 34
  · subst c0; exact .inr (by decide)
  by_cases c1 : k = 92
  · subst c1; exact .inr (by decide)
  by_cases c2 : k = 47
  · subst c2; exact .inr (by decide)
  by_cases c3 : k = 98
  · subst c3; exact .inr (by decide)
  by_cases c4 : k = 102
  · subst c4; exact .inr (by decide)
  by_cases c5 : k = 110
  · subst c5; exact .inr (by decide)
  by_cases c6 : k = 114
  · subst c6; exact .inr (by decide)
  by_cases c7 : k = 116
  · subst c7; exact .inr (by decide)
  left
  unfold escE
  rw [if_neg (by omega)]
  simp only [whichF, a0, a1, a2, a3, a4, a5, a6, a7]
  rw [if_neg (by omega), if_neg (by omega), if_neg (by omega), if_neg (by omega), if_neg (by omega), if_neg (by omega), if_neg (by omega), if_neg (by omega)]
  exact ⟨rfl, trivial⟩
theorem znd (k : Nat) (l xs : List UInt8) (m : Nat) (hm : m = xs.length) : D.gs k 1 (l.length + m) (catF l.length (bytesF l) m (bytesF xs)) = D.gs k 1 (l ++ xs).length (bytesF (l ++ xs)) :=
  zcR k l xs m _ hm fun _ _ => rfl
set_option maxHeartbeats 2000000 in
theorem zkA (s : List UInt8) (i : Int) (hs : s.length ≤ 1048576) : Ctr Tryz.prog 88 [.s s, .i .i64 i] (.tu [.s (unqF s i).1, .i .i64 (unqF s i).2.1, .i .i64 (unqF s i).2.2]) := by
  by_cases hb : i < 0 ∨ s.length < i
  · unfold unqF
    rw [if_pos hb]
    refine zay Tryz.func88 rfl Tryz.ntmps88 Tryz.results88 rfl rfl fun X hL hX => ?_
    repeat' (first |with_reducible (first |refine zag ?_|refine zaa ?_|refine zaf ?_|refine zad ?_|refine zaj ?_|refine zal ?_)|refine zab rfl rfl True.intro ?_|refine zau rfl rfl rfl ?_|refine zam rfl rfl rfl rfl True.intro ?_|refine zas rfl ?_|((first |refine zac rfl ?_ ?_|refine zan rfl rfl ?_ ?_)<;>intro<;>try (first |(exfalso;omega)))|refine zaw rfl ?_|fail)
    all_goals rfl
  · have h0 : 0 ≤ i := by omega
    have h1 : i ≤ s.length := by omega
    generalize hR : unqF s i = R
    unfold unqF at hR
    rw [if_neg hb] at hR
    replace hR := fun _ : Unit => hR.symm
    have hr := zaG s i
    have m1 : ¬ i < s.length → R = ([], 0, 2) := fun h => by
      rw [hR (), show mustF s i 0 34 = (i, 2) by unfold mustF; rw [zbs rfl h]; rfl]
      rfl
    have m2 : i < s.length → ¬ at' s i = 34 → R = ([], 0, 3) := fun h h2 => by
      rw [hR (), show mustF s i 0 34 = (i + 1, 3) by unfold mustF; rw [zbG rfl h]; dsimp only; rw [if_neg h2]; rfl]
      rfl
    have m3 : i < s.length → at' s i = 34 → R = unqG s (s.length + 1 - (i + 1).toNat) (i + 1) [] := fun h h2 => by
      rw [hR (), show mustF s i 0 34 = (i + 1, 0) by unfold mustF; rw [zbG rfl h]; dsimp only; rw [if_pos h2]]
      rfl
    clear hR
    refine zay Tryz.func88 rfl Tryz.ntmps88 Tryz.results88 rfl rfl fun X hL hX => ?_
    repeat' (first |with_reducible (first |refine zag ?_|refine zaa ?_|refine zaf ?_|refine zad ?_|refine zaj ?_|refine zai ?_|refine zae ?_|refine zal ?_)|refine zab rfl rfl True.intro ?_|refine zam rfl rfl rfl rfl True.intro ?_|((first |refine zac rfl ?_ ?_|refine zat rfl ?_ ?_|refine zan rfl rfl ?_ ?_)<;>intro<;>try (first |(exfalso;omega)))|((first |refine zab rfl rfl ?_ ?_);focus (first |omega|((repeat' refine And.intro ?_ ?_)<;>omega)))|refine zaw rfl ?_|fail)
    · rw [m1 (by omega)]
    · rw [m2 (by omega) ‹_›]
    refine T.adopt 7 200 5 1 (bytesF []) rfl rfl ?_
    refine T.loop hL (fun x : Int × List UInt8 => [(0, .s s), (1, .i .i64 x.1), (7, .gs 200 1 x.2.length (bytesF x.2))]) (fun x => [(200, .row 5 1 x.2.length)])
      (fun x => 0 ≤ x.1 ∧ x.1 ≤ s.length ∧ (x.2.length : Int) ≤ 4 * x.1 ∧ (∀ _ : Unit, unqG s (s.length + 1 - x.1.toNat) x.1 x.2 = R)) (fun x => s.length + 1 - x.1.toNat) (i + 1, []) ?_
      ⟨⟨rfl, rfl, rfl, trivial⟩, ⟨rfl, trivial⟩, rfl, by rw [hX]; intro k hk; cases hk⟩ ?_
    · exact ⟨by dsimp only; omega, by dsimp only; omega, by simp; omega, fun _ => (m3 (by omega) (by omega)).symm⟩
    clear m1 m2 m3 hr
    rintro ⟨p, o⟩ ⟨i0, i1, i2, i3⟩
    dsimp only at i0 i1 i2 i3 ⊢
    have done : ∀ (fr : Fr) (ow : Ow) (p' : Int) (o' : List UInt8), getD' 0 fr = .s s → getD' 1 fr = .i .i64 p' → getD' 7 fr = .gs 200 1 o'.length (bytesF o') → leOw ow [(200, .row 5 1 o'.length)] → p < p' → p' ≤ s.length → (o'.length : Int) ≤ 4 * p' → (∀ _ : Unit, unqG s (s.length + 1 - p'.toNat) p' o' = R) →
        ∃ y : Int × List UInt8, (0 ≤ y.1 ∧ y.1 ≤ s.length ∧ (y.2.length : Int) ≤ 4 * y.1 ∧ (∀ _ : Unit, unqG s (s.length + 1 - y.1.toNat) y.1 y.2 = R)) ∧ s.length + 1 - y.1.toNat < s.length + 1 - p.toNat ∧
          Le X fr ow [(0, .s s), (1, .i .i64 y.1), (7, .gs 200 1 y.2.length (bytesF y.2))] [(200, .row 5 1 y.2.length)] := by
      intro fr ow p' o' q1 q2 q3 q4 q5 q6 q7 q8
      exact ⟨(p', o'), ⟨by dsimp only; omega, q6, q7, q8⟩, by dsimp only; omega, ⟨q1, q2, q3, trivial⟩, q4, rfl, by rw [hX]; intro k hk; cases hk⟩
    have ho : o.length ≤ 4194304 := by omega
    have hnn : p < s.length → s.length + 1 - p.toNat = (s.length + 1 - (p + 1).toNat) + 1 := fun h => by omega
    by_cases hp : p < s.length
    · rw [hnn hp] at i3
      have hr := zaG s p
      by_cases c34 : at' s p = 34
      · have cv := zgp o (by omega)
        cases hv : validL o with
        | true =>
          rw [hv] at cv
          have i3 := fun _ : Unit => (i3 ()).symm.trans (zcC hp c34 hv)
          clear hv done
          repeat' (first |with_reducible (first |refine zag ?_|refine zaa ?_|refine zaf ?_|refine zad ?_|refine zaj ?_|refine zai ?_|refine zae ?_|refine zal ?_|refine zap ?_)|refine zab rfl rfl True.intro ?_|refine zak rfl ?_|((first |refine zac rfl ?_ ?_)<;>intro<;>try (first |(exfalso;omega)))|((first |refine zab rfl rfl ?_ ?_);focus (first |omega|((repeat' refine And.intro ?_ ?_)<;>omega)|((repeat' refine And.intro ?_ ?_)<;>first |omega|exact zdw _)))|refine zaw rfl ?_|refine zah (f := 104) rfl rfl Tryz.call104 rfl (by rw [zbb];exact cv) ?_|fail)
          rw [i3 (), zbb]
        | false =>
          rw [hv] at cv
          have i3 := fun _ : Unit => (i3 ()).symm.trans (zes hp c34 hv)
          clear hv done
          repeat' (first |with_reducible (first |refine zag ?_|refine zaa ?_|refine zaf ?_|refine zad ?_|refine zaj ?_|refine zai ?_|refine zae ?_|refine zal ?_|refine zap ?_)|refine zab rfl rfl True.intro ?_|refine zas rfl ?_|((first |refine zac rfl ?_ ?_)<;>intro<;>try (first |(exfalso;omega)))|((first |refine zab rfl rfl ?_ ?_);focus (first |omega|((repeat' refine And.intro ?_ ?_)<;>omega)|((repeat' refine And.intro ?_ ?_)<;>first |omega|exact zdw _)))|refine zaw rfl ?_|refine zah (f := 104) rfl rfl Tryz.call104 rfl (by rw [zbb];exact cv) ?_|fail)
          rw [i3 ()]
      · by_cases c92 : at' s p = 92
        · have ce := zcG s (p + 1) o (by omega) (by omega)
          have i3 := fun _ : Unit => (i3 ()).symm.trans (zet hp c92)
          by_cases hp1 : p + 1 < s.length
          · have hr1 := zaG s (p + 1)
            by_cases c117 : at' s (p + 1) = 117
            · have he : escP s (p + 1) o = codeP s (p + 1 + 1) o := by unfold escP; rw [if_pos hp1, if_pos c117]
              rw [he] at ce
              have i3 := fun _ : Unit => he ▸ i3 ()
              clear he
              have cc := zof s (p + 1 + 1) (by omega) (by omega) (by omega)
              have cR := zqO s (p + 1 + 1) o (by omega) (by omega)
              have cg := zjH s (p + 1 + 1) (by omega) (by omega)
              generalize codeP s (p + 1 + 1) o = E at i3 cR ce
              generalize codeR s (p + 1 + 1) = C at cc cR cg
              obtain ⟨a, b, e⟩ := C
              obtain ⟨a', b', e'⟩ := E
              dsimp only at cc cR cg i3 ce
              obtain ⟨rfl, cR⟩ := cR
              have cb := zll a cg.1 cg.2.1
              have ul := zgR a
              by_cases e0 : e' = 0
              · obtain ⟨rfl, rfl⟩ := cR e0
                have cg3 := cg.2.2 e0
                subst e0
                clear cg cR
                repeat' (first |with_reducible (first |refine zag ?_|refine zaa ?_|refine zaf ?_|refine zad ?_|refine zai ?_|refine zaz ?_|refine zae ?_|refine zaA ?_)|refine zab rfl rfl True.intro ?_|refine zak rfl ?_|((first |refine zac rfl ?_ ?_|refine zat rfl ?_ ?_)<;>intro<;>try (first |(exfalso;omega)))|((first |refine zab rfl rfl ?_ ?_|refine zao rfl rfl ?_ ?_);focus (first |omega|((repeat' refine And.intro ?_ ?_)<;>omega)|((repeat' refine And.intro ?_ ?_)<;>first |omega|rfl)))|refine zaJ rfl ?_|refine zah (f := 116) rfl rfl Tryz.call116 rfl cc ?_|refine zah (f := 117) rfl rfl Tryz.call117 rfl cb ?_|fail)
                refine done _ _ a' (o ++ utfB a) rfl rfl (znd _ _ _ _ rfl) ⟨by rw [List.length_append]; rfl, trivial⟩ (by omega) (by omega) (by rw [List.length_append]; omega) (fun _ => ?_)
                rw [i3 (), if_pos rfl]
                exact zfN s _ _ a' _ (by omega) (by omega) (by omega) (by omega)
              · clear done cR
                repeat' (first |with_reducible (first |refine zag ?_|refine zaa ?_|refine zaf ?_|refine zad ?_|refine zaj ?_|refine zai ?_|refine zae ?_|refine zal ?_|refine zap ?_)|refine zab rfl rfl True.intro ?_|((first |refine zac rfl ?_ ?_|refine zat rfl ?_ ?_)<;>intro<;>try (first |(exfalso;omega)))|((first |refine zab rfl rfl ?_ ?_);focus (first |omega|((repeat' refine And.intro ?_ ?_)<;>omega)))|refine zaw rfl ?_|refine zah (f := 116) rfl rfl Tryz.call116 rfl cc ?_|fail)
                rw [i3 (), if_neg e0]
            · have he : escP s (p + 1) o = (p + 1 + 1, o ++ [by8 (escV (at' s (p + 1)))], escE (at' s (p + 1))) := by unfold escP; rw [if_pos hp1, if_neg c117]
              have i3 := fun _ : Unit => he ▸ i3 ()
              clear he ce
              repeat' (first |with_reducible (first |refine zag ?_|refine zaa ?_|refine zaf ?_|refine zad ?_|refine zai ?_|refine zae ?_)|refine zab rfl rfl True.intro ?_|((first |refine zac rfl ?_ ?_|refine zat rfl ?_ ?_)<;>intro<;>try (first |(exfalso;omega)))|((first |refine zab rfl rfl ?_ ?_);focus (first |omega|((repeat' refine And.intro ?_ ?_)<;>omega)))|fail)
              refine T.loop hL (fun x : Nat × Int => [(0, .s s), (1, .i .i64 (p + 1 + 1)), (7, .gs 200 1 o.length (bytesF o)), (9, .i .u8 (at' s (p + 1))), (13, .s escFrom), (14, .s escTo), (15, .i .i64 x.2), (16, .i .i64 x.1)]) (fun _ => [(200, .row 5 1 o.length)])
                (fun x => x.1 ≤ 8 ∧ x.2 = whichF (at' s (p + 1)) x.1) (fun x => 8 - x.1) (0, -1) ⟨by decide, rfl⟩ ⟨⟨rfl, rfl, rfl, rfl, rfl, rfl, rfl, rfl, trivial⟩, ⟨rfl, trivial⟩, rfl, by rw [hX]; intro k hk; cases hk⟩ ?_
              rintro ⟨j, w⟩ ⟨j1, j2⟩
              dsimp only at j1 j2 ⊢
              have l1 : escFrom.length = 8 := rfl
              have l2 : escTo.length = 8 := rfl
              by_cases hj : j < 8
              · have hw : ∀ b : Int, at' escFrom j = at' s (p + 1) → whichF (at' s (p + 1)) (j + 1) = j := fun _ h => if_pos h
                have hw2 : ∀ b : Int, ¬ at' escFrom j = at' s (p + 1) → whichF (at' s (p + 1)) (j + 1) = whichF (at' s (p + 1)) j := fun _ h => if_neg h
                have j2 := fun _ : Unit => j2
                clear done
                repeat' (first |with_reducible (first |refine zag ?_|refine zaa ?_|refine zaf ?_|refine zad ?_|refine zai ?_|refine zae ?_|refine zaq ?_)|refine zab rfl rfl True.intro ?_|((first |refine zac rfl ?_ ?_)<;>intro<;>try (first |(exfalso;omega)))|((first |refine zab rfl rfl ?_ ?_);focus (first |omega|((repeat' refine And.intro ?_ ?_)<;>omega)))|fail)
                · exact ⟨(j + 1, j), ⟨by dsimp only; omega, (hw 0 ‹_›).symm⟩, by dsimp only; omega, ⟨rfl, rfl, rfl, rfl, rfl, rfl, rfl, rfl, trivial⟩, ⟨rfl, trivial⟩, rfl, by rw [hX]; intro k hk; cases hk⟩
                · exact ⟨(j + 1, w), ⟨by dsimp only; omega, (j2 ()).trans (hw2 0 ‹_›).symm⟩, by dsimp only; omega, ⟨rfl, rfl, rfl, rfl, rfl, rfl, rfl, rfl, trivial⟩, ⟨rfl, trivial⟩, rfl, by rw [hX]; intro k hk; cases hk⟩
              · obtain rfl : j = 8 := by omega
                rcases zoS (at' s (p + 1)) with ⟨w1, w2⟩ | ⟨w1, w2, w3, w4⟩
                · rw [w1] at j2
                  subst j2
                  clear done
                  repeat' (first |with_reducible (first |refine zag ?_|refine zaa ?_|refine zaf ?_|refine zad ?_|refine zaj ?_|refine zaz ?_|refine zaA ?_|refine zal ?_|refine zap ?_)|refine zab rfl rfl True.intro ?_|refine zas rfl ?_|refine zak rfl ?_|refine zaJ rfl ?_|refine zaw rfl ?_|fail)
                  rw [i3 ()]
                  dsimp only
                  rw [w2]
                  rfl
                · rw [← j2] at w1 w2 w4
                  have w4 := fun _ : Unit => w4
                  clear j2
                  repeat' (first |with_reducible (first |refine zag ?_|refine zaa ?_|refine zaf ?_|refine zad ?_|refine zai ?_|refine zaz ?_|refine zaq ?_|refine zaA ?_)|refine zab rfl rfl True.intro ?_|refine zak rfl ?_|((first |refine zac rfl ?_ ?_)<;>intro<;>try (first |(exfalso;omega)))|((first |refine zab rfl rfl ?_ ?_|refine zao rfl rfl ?_ ?_);focus (first |omega|((repeat' refine And.intro ?_ ?_)<;>omega)|((repeat' refine And.intro ?_ ?_)<;>first |omega|rfl)))|refine zaJ rfl ?_|fail)
                  refine done _ _ (p + 1 + 1) (o ++ [by8 (escV (at' s (p + 1)))]) rfl rfl (zjV 200 o (by8 (escV (at' s (p + 1)))) _ (by rw [← w4 (), zcn _ (zaG _ _).1 (zaG _ _).2]; rfl)) ⟨by rw [List.length_append]; rfl, trivial⟩ (by omega) (by omega) (by rw [List.length_append]; simp; omega) (fun _ => ?_)
                  rw [i3 ()]
                  dsimp only
                  rw [w3, if_pos rfl]
                  exact zfN s _ _ (p + 1 + 1) _ (by omega) (by omega) (by omega) (by omega)
          · have he : escP s (p + 1) o = (p + 1, o ++ [0], 2) := by unfold escP; rw [if_neg hp1]
            have i3 := fun _ : Unit => he ▸ i3 ()
            clear he done ce
            repeat' (first |with_reducible (first |refine zag ?_|refine zaa ?_|refine zaf ?_|refine zad ?_|refine zaj ?_|refine zai ?_|refine zae ?_|refine zal ?_|refine zap ?_)|refine zab rfl rfl True.intro ?_|((first |refine zac rfl ?_ ?_|refine zat rfl ?_ ?_)<;>intro<;>try (first |(exfalso;omega)))|((first |refine zab rfl rfl ?_ ?_);focus (first |omega|((repeat' refine And.intro ?_ ?_)<;>omega)))|refine zaw rfl ?_|fail)
            rw [i3 ()]
            rfl
        · by_cases c32 : at' s p < 32
          · have i3 := fun _ : Unit => (i3 ()).symm.trans (zeu hp c34 c92 c32)
            clear done
            repeat' (first |with_reducible (first |refine zag ?_|refine zaa ?_|refine zaf ?_|refine zad ?_|refine zaj ?_|refine zai ?_|refine zae ?_|refine zal ?_|refine zap ?_)|refine zab rfl rfl True.intro ?_|((first |refine zac rfl ?_ ?_)<;>intro<;>try (first |(exfalso;omega)))|((first |refine zab rfl rfl ?_ ?_);focus (first |omega|((repeat' refine And.intro ?_ ?_)<;>omega)))|refine zaw rfl ?_|fail)
            rw [i3 ()]
          · have i3 := fun _ : Unit => (i3 ()).symm.trans (zcY hp c34 c92 c32)
            repeat' (first |with_reducible (first |refine zag ?_|refine zaa ?_|refine zaf ?_|refine zad ?_|refine zai ?_|refine zaz ?_|refine zae ?_|refine zaA ?_)|refine zab rfl rfl True.intro ?_|((first |refine zac rfl ?_ ?_|refine zat rfl ?_ ?_)<;>intro<;>try (first |(exfalso;omega)))|((first |refine zab rfl rfl ?_ ?_|refine zao rfl rfl ?_ ?_);focus (first |omega|((repeat' refine And.intro ?_ ?_)<;>omega)|((repeat' refine And.intro ?_ ?_)<;>first |omega|rfl)))|refine zaJ rfl ?_|fail)
            refine done _ _ (p + 1) (o ++ [by8 (at' s p)]) rfl rfl (zjV 200 o (by8 (at' s p)) _ (by rw [zcn _ hr.1 hr.2]; rfl)) ⟨by rw [List.length_append]; rfl, trivial⟩ (by omega) (by omega) (by rw [List.length_append]; simp; omega) (fun _ => (i3 ()).symm)
    · rw [show s.length + 1 - p.toNat = 0 + 1 by omega] at i3
      have i3 := fun _ : Unit => (i3 ()).symm.trans (zef hp)
      clear done
      repeat' (first |with_reducible (first |refine zag ?_|refine zaa ?_|refine zaf ?_|refine zad ?_|refine zaj ?_|refine zae ?_|refine zal ?_|refine zap ?_)|refine zab rfl rfl True.intro ?_|((first |refine zac rfl ?_ ?_)<;>intro<;>try (first |(exfalso;omega)))|refine zaw rfl ?_|fail)
      rw [i3 ()]

end Go.Proofs.YtcajofhafpkbdaaGreatDoor.Flow
