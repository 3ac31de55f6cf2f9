/- The texts G17, U10, U11, U12, J2p, U13, U14, U15, U16, U17, D11, one behind the other. -/
import Derived.Test.YtcajofhafpkbdaaGreatDoorCT11
import Derived.Test.YtcajofhafpkbdaaGreatDoorCT20
import Derived.Test.YtcajofhafpkbdaaGreatDoorCT21
namespace Go.Proofs.YtcajofhafpkbdaaGreatDoor.Flow
open Go
theorem new2 {ow : Ow} (h1 : look 101 ow = none) (h2 : look 102 ow = none) : ∀ k ∈ [101, 102], k ∉ ([] : List Nat) → look k ow = none := fun k h _ => by
  rcases List.mem_cons.1 h with rfl | h
  · exact h1
  rcases List.mem_cons.1 h with rfl | h
  · exact h2
  cases h
def kArchive : Txt := [97, 114, 99, 104, 105, 118, 101]
def kLayers : Txt := [108, 97, 121, 101, 114, 115]
def kCsv : Txt := [99, 115, 118]
def kKey : Txt := [107, 101, 121]
def kAttr : Txt := [97, 116, 116, 114]
def kOnly : Txt := [111, 110, 108, 121]
def kNot : Txt := [110, 111, 116]
def kTexts : Txt := [116, 101, 120, 116, 115]
def kDrop : Txt := [100, 114, 111, 112]
def layJ (p : Fld) : J := listJ ([p.1, p.2].map txJ)
def srcV1 (s : SrcR) : List J := if s.lays = [] then [txJ s.arch] else [txJ s.arch, listJ (s.lays.map layJ)]
def srcK1 (s : SrcR) : List Txt := if s.lays = [] then [kArchive] else [kArchive, kLayers]
def srcJ (s : SrcR) : J := if s.csv = [] then mapJ (srcV1 s) (srcK1 s) else mapJ (srcV1 s ++ [txJ s.csv] ++ [txJ s.key] ++ [txJ s.attr] ++ [listJ (s.only.map txJ)] ++ [listJ (s.notl.map txJ)] ++ [boolJ s.texts] ++ [boolJ s.drop]) (srcK1 s ++ [kCsv] ++ [kKey] ++ [kAttr] ++ [kOnly] ++ [kNot] ++ [kTexts] ++ [kDrop])
theorem zoq (s : SrcR) : (srcV1 s).length ≤ 2 := by
  unfold srcV1
  split <;> simp
theorem zoV (s : SrcR) : (srcK1 s).length ≤ 2 := by
  unfold srcK1
  split <;> simp
set_option maxRecDepth 100000 in
set_option maxHeartbeats 8000000 in
theorem zkn (s : SrcR) (hs : fitS s) : Ctr Tryz.prog 32 [.ag (srcP s)] (.ag (jP (srcJ s))) := by
  obtain ⟨s1, s2, s3⟩ := hs
  have oA := zeL s.arch
  have wA := ziM (txJ s.arch) kArchive
  refine zaE Tryz.func32 rfl Tryz.ntmps32 Tryz.results32 rfl rfl fun X hL hX => ?_
  repeat' (first |refine ziT 2 hL (fun _ : Unit => [(1, .pv 1 0), (2, .pv 2 0), (3, .pv 3 0)]) (fun _ => (1, .var (srcP s)) :: (2, .var j0C) :: (3, .var (xG (srcV1 s) (srcK1 s))) :: xR (srcV1 s) (srcK1 s)) (fun _ => True) ?_ ?_|refine T.adoptV 4 6 100 55 8 _ (jF []) rfl rfl rfl ?_|refine zai (f := 34) rfl rfl Tryz.call34 rfl oA ?_|refine zbx (f := 33) [] (xR [txJ s.arch] [kArchive]) [] [101, 102] rfl rfl (by decide) (fun _ h => by cases h) (new2 rfl rfl) rfl rfl Tryz.call33 trivial rfl rfl rfl rfl wA ?_|with_reducible (first |refine zag ?_|refine zaa ?_|refine zaf ?_|refine zad ?_|refine zah ?_|refine zae ?_)|refine zab rfl rfl True.intro ?_|((first |refine zac rfl ?_ ?_)<;>intro)|((first |refine zab rfl rfl ?_ ?_|refine zao rfl rfl ?_ ?_|refine zaw rfl ?_ ?_);focus (first |exact le_ rfl|((repeat' refine And.intro ?_ ?_)<;>omega)|((repeat' refine And.intro ?_ ?_)<;>first |rfl|exact Nat.le_refl _)))|fail)
  · have hl : ¬ s.lays = [] := fun h => by
      have h2 : (s.lays.length : Int) > 0 := by assumption
      rw [h] at h2
      simp at h2
    refine T.loop hL (fun i : Nat => [(1, .pv 1 0), (2, .pv 2 0), (3, .pv 3 0), (4, .pv 4 0), (19, .sl 2 s.lays.length (fldF s.lays)), (20, .i .i64 s.lays.length), (21, .i .i64 i)]) (fun i => [(1, .var (srcP s)), (2, .var j0C), (3, .var (xG [txJ s.arch] [kArchive])), (4, .var [.i .i64 4, .b false, .b false, .s [], .i .i64 0, .s [], .gs 100 8 ((s.lays.take i).map layJ).length (jF ((s.lays.take i).map layJ)), .nilS]), (100, .row 55 8 ((s.lays.take i).map layJ).length), (101, .row 55 8 1), (102, .row 9 1 1)])
      (fun i => i ≤ s.lays.length ∧ ((s.lays.take i).map layJ).length = i) (fun i => s.lays.length - i) 0 ⟨Nat.zero_le _, by simp⟩
      ⟨⟨rfl, rfl, rfl, rfl, rfl, rfl, rfl, trivial⟩, ⟨rfl, rfl, rfl, rfl, rfl, rfl, rfl, trivial⟩, rfl, by rw [hX]; simp⟩ ?_
    rintro i ⟨g1, g2⟩
    try dsimp only at g1 g2 ⊢
    have hnat : (i : Int).toNat = i := Int.toNat_natCast i
    by_cases hil : i < s.lays.length
    · have hil' : (i : Int) < s.lays.length := by omega
      have c := (zfI [(s.lays.getD (i : Int).toNat ([], [])).1, (s.lays.getD (i : Int).toNat ([], [])).2] (by simp)).weak1 (zhP _ _)
      have e := zeA (f := layJ) (d := ([], [])) hil
      have e1 := zfi ((s.lays.take i).map layJ) (layJ (s.lays.getD (i : Int).toNat ([], []))) (chunk 8 (jP (layJ (s.lays.getD (i : Int).toNat ([], []))))) (by rw [zlu]; rfl)
      have g3 : ((s.lays.take (i + 1)).map layJ).length = ((s.lays.take i).map layJ).length + 1 := by rw [e, List.length_append]; rfl
      rw [hnat] at e1
      repeat' (first |refine T.frzV 6 6 0 _ rfl rfl rfl ?_|refine zjF rfl rfl (le_ rfl) rfl ?_|refine zai (f := 62) rfl rfl Tryz.call62 rfl c ?_|with_reducible (first |refine zag ?_|refine zaa ?_|refine zaf ?_|refine zad ?_|refine zah ?_|refine zae ?_|refine zap ?_|refine zaB ?_)|refine zab rfl rfl True.intro ?_|((first |refine zac rfl ?_ ?_)<;>intro<;>try (first |(exfalso;omega)))|((first |refine zab rfl rfl ?_ ?_|refine zao rfl rfl ?_ ?_|refine zaw rfl ?_ ?_);focus (first |omega|exact le_ rfl|((repeat' refine And.intro ?_ ?_)<;>omega)|((repeat' refine And.intro ?_ ?_)<;>first |omega|rfl|exact Nat.le_refl _|exact le_ rfl)))|with_reducible refine ⟨by kernel_rfl, ?_⟩|fail)
      all_goals exact ⟨i + 1, ⟨by omega, by omega⟩, by omega, ⟨rfl, rfl, rfl, rfl, rfl, rfl, rfl, trivial⟩, ⟨rfl, rfl, rfl, by rw [g3, e, ← e1]; rfl, by rw [g3]; rfl, rfl, rfl, trivial⟩, rfl, by rw [hX]; simp⟩
    have hil' : ¬ (i : Int) < s.lays.length := by omega
    have ea : s.lays.take i = s.lays := List.take_of_length_le (by omega)
    rw [ea]
    have wL := (zbs [txJ s.arch] [kArchive] (listJ (s.lays.map layJ)) kLayers (by simp) (by simp)).weakThird (zdB _)
    repeat' (first |refine zbx (f := 33) (xR [txJ s.arch] [kArchive]) (xR ([txJ s.arch] ++ [listJ (s.lays.map layJ)]) ([kArchive] ++ [kLayers])) [101, 102] [101, 102] rfl rfl (by decide) (fun _ h => h) (fun k h1 h2 => absurd h1 h2) rfl rfl Tryz.call33 ⟨rfl, rfl, trivial⟩ rfl rfl rfl rfl wL ?_|with_reducible (first |refine zag ?_|refine zaa ?_|refine zaf ?_|refine zad ?_|refine zaA ?_|refine zaz ?_)|refine zab rfl rfl True.intro ?_|((first |refine zac rfl ?_ ?_)<;>intro<;>try (first |(exfalso;omega)))|((first |refine zab rfl rfl ?_ ?_|refine zaw rfl ?_ ?_);focus (first |exact le_ rfl|((repeat' refine And.intro ?_ ?_)<;>omega)|((repeat' refine And.intro ?_ ?_)<;>first |rfl|exact Nat.le_refl _)))|refine zaO rfl ?_|fail)
    have v1 : srcV1 s = [txJ s.arch] ++ [listJ (s.lays.map layJ)] := if_neg hl
    have k1 : srcK1 s = [kArchive] ++ [kLayers] := if_neg hl
    rw [v1, k1]
    exact ⟨(), trivial, ⟨rfl, rfl, rfl, trivial⟩, ⟨rfl, rfl, rfl, rfl, rfl, trivial⟩, rfl, by rw [hX]; simp⟩
  · have hl : s.lays = [] := by
      have h2 : ¬ (s.lays.length : Int) > 0 := by assumption
      exact List.length_eq_zero_iff.1 (by omega)
    have v1 : srcV1 s = [txJ s.arch] := if_pos hl
    have k1 : srcK1 s = [kArchive] := if_pos hl
    rw [v1, k1]
    exact ⟨(), trivial, ⟨rfl, rfl, rfl, trivial⟩, ⟨rfl, rfl, rfl, rfl, rfl, trivial⟩, rfl, by rw [hX]; simp⟩
  intro _ _
  have hV := zoq s
  have hK := zoV s
  unfold srcJ
  generalize srcV1 s = V at *
  generalize srcK1 s = K at *
  have o0 := zeL s.csv
  have o1 := zeL s.key
  have o2 := zeL s.attr
  have l0 := zfI s.only (by omega)
  have l1 := zfI s.notl (by omega)
  have w0 := zbs (V) (K) (txJ s.csv) kCsv (by first | omega | (simp only [List.length_append, List.length_cons, List.length_nil]; omega)) (by first | omega | (simp only [List.length_append, List.length_cons, List.length_nil]; omega))
  have w1 := zbs (V ++ [txJ s.csv]) (K ++ [kCsv]) (txJ s.key) kKey (by first | omega | (simp only [List.length_append, List.length_cons, List.length_nil]; omega)) (by first | omega | (simp only [List.length_append, List.length_cons, List.length_nil]; omega))
  have w2 := zbs (V ++ [txJ s.csv] ++ [txJ s.key]) (K ++ [kCsv] ++ [kKey]) (txJ s.attr) kAttr (by first | omega | (simp only [List.length_append, List.length_cons, List.length_nil]; omega)) (by first | omega | (simp only [List.length_append, List.length_cons, List.length_nil]; omega))
  have w3 := zbs (V ++ [txJ s.csv] ++ [txJ s.key] ++ [txJ s.attr]) (K ++ [kCsv] ++ [kKey] ++ [kAttr]) (listJ (s.only.map txJ)) kOnly (by first | omega | (simp only [List.length_append, List.length_cons, List.length_nil]; omega)) (by first | omega | (simp only [List.length_append, List.length_cons, List.length_nil]; omega))
  have w4 := zbs (V ++ [txJ s.csv] ++ [txJ s.key] ++ [txJ s.attr] ++ [listJ (s.only.map txJ)]) (K ++ [kCsv] ++ [kKey] ++ [kAttr] ++ [kOnly]) (listJ (s.notl.map txJ)) kNot (by first | omega | (simp only [List.length_append, List.length_cons, List.length_nil]; omega)) (by first | omega | (simp only [List.length_append, List.length_cons, List.length_nil]; omega))
  have w5 := (zbs (V ++ [txJ s.csv] ++ [txJ s.key] ++ [txJ s.attr] ++ [listJ (s.only.map txJ)] ++ [listJ (s.notl.map txJ)]) (K ++ [kCsv] ++ [kKey] ++ [kAttr] ++ [kOnly] ++ [kNot]) (boolJ s.texts) kTexts (by first | omega | (simp only [List.length_append, List.length_cons, List.length_nil]; omega)) (by first | omega | (simp only [List.length_append, List.length_cons, List.length_nil]; omega))).weakThird (zgR _)
  have w6 := (zbs (V ++ [txJ s.csv] ++ [txJ s.key] ++ [txJ s.attr] ++ [listJ (s.only.map txJ)] ++ [listJ (s.notl.map txJ)] ++ [boolJ s.texts]) (K ++ [kCsv] ++ [kKey] ++ [kAttr] ++ [kOnly] ++ [kNot] ++ [kTexts]) (boolJ s.drop) kDrop (by first | omega | (simp only [List.length_append, List.length_cons, List.length_nil]; omega)) (by first | omega | (simp only [List.length_append, List.length_cons, List.length_nil]; omega))).weakThird (zgR _)
  clear oA wA
  by_cases hc : s.csv = []
  · have hc' : ¬ (s.csv == (⟨#[]⟩ : ByteArray).data.toList) = false := fun h => beq_eq_false_iff_ne.1 h hc
    rw [if_pos hc]
    clear o0 o1 o2 l0 l1 w0 w1 w2 w3 w4 w5 w6
    repeat' (first |with_reducible (first |refine zag ?_|refine zaa ?_|refine zaf ?_|refine zad ?_|refine zaj ?_|refine zah ?_)|refine zab rfl rfl True.intro ?_|((first |refine zbr rfl ?_ ?_)<;>intro<;>try (first |contradiction))|((first |refine zab rfl rfl ?_ ?_|refine zaw rfl ?_ ?_);focus (first |exact le_ rfl|((repeat' refine And.intro ?_ ?_)<;>omega)|((repeat' refine And.intro ?_ ?_)<;>first |rfl|exact Nat.le_refl _)))|refine zbp rfl ?_|fail)
    all_goals exact .of_eq rfl
  · have hc' : ¬ (s.csv == (⟨#[]⟩ : ByteArray).data.toList) = true := fun h => hc (beq_iff_eq.1 h)
    rw [if_neg hc]
    repeat' (first |refine zai (f := 34) rfl rfl Tryz.call34 rfl o0 ?_|refine zai (f := 34) rfl rfl Tryz.call34 rfl o1 ?_|refine zai (f := 34) rfl rfl Tryz.call34 rfl o2 ?_|refine zai (f := 62) rfl rfl Tryz.call62 rfl l0 ?_|refine zai (f := 62) rfl rfl Tryz.call62 rfl l1 ?_|refine zbx (f := 33) (xR (V) (K)) (xR (V ++ [txJ s.csv]) (K ++ [kCsv])) [101, 102] [101, 102] rfl rfl (by decide) (fun _ h => h) (fun k h1 h2 => absurd h1 h2) rfl rfl Tryz.call33 ⟨rfl, rfl, trivial⟩ rfl rfl rfl rfl w0 ?_|refine zbx (f := 33) (xR (V ++ [txJ s.csv]) (K ++ [kCsv])) (xR (V ++ [txJ s.csv] ++ [txJ s.key]) (K ++ [kCsv] ++ [kKey])) [101, 102] [101, 102] rfl rfl (by decide) (fun _ h => h) (fun k h1 h2 => absurd h1 h2) rfl rfl Tryz.call33 ⟨rfl, rfl, trivial⟩ rfl rfl rfl rfl w1 ?_|refine zbx (f := 33) (xR (V ++ [txJ s.csv] ++ [txJ s.key]) (K ++ [kCsv] ++ [kKey])) (xR (V ++ [txJ s.csv] ++ [txJ s.key] ++ [txJ s.attr]) (K ++ [kCsv] ++ [kKey] ++ [kAttr])) [101, 102] [101, 102] rfl rfl (by decide) (fun _ h => h) (fun k h1 h2 => absurd h1 h2) rfl rfl Tryz.call33 ⟨rfl, rfl, trivial⟩ rfl rfl rfl rfl w2 ?_|refine zbx (f := 33) (xR (V ++ [txJ s.csv] ++ [txJ s.key] ++ [txJ s.attr]) (K ++ [kCsv] ++ [kKey] ++ [kAttr])) (xR (V ++ [txJ s.csv] ++ [txJ s.key] ++ [txJ s.attr] ++ [listJ (s.only.map txJ)]) (K ++ [kCsv] ++ [kKey] ++ [kAttr] ++ [kOnly])) [101, 102] [101, 102] rfl rfl (by decide) (fun _ h => h) (fun k h1 h2 => absurd h1 h2) rfl rfl Tryz.call33 ⟨rfl, rfl, trivial⟩ rfl rfl rfl rfl w3 ?_|refine zbx (f := 33) (xR (V ++ [txJ s.csv] ++ [txJ s.key] ++ [txJ s.attr] ++ [listJ (s.only.map txJ)]) (K ++ [kCsv] ++ [kKey] ++ [kAttr] ++ [kOnly])) (xR (V ++ [txJ s.csv] ++ [txJ s.key] ++ [txJ s.attr] ++ [listJ (s.only.map txJ)] ++ [listJ (s.notl.map txJ)]) (K ++ [kCsv] ++ [kKey] ++ [kAttr] ++ [kOnly] ++ [kNot])) [101, 102] [101, 102] rfl rfl (by decide) (fun _ h => h) (fun k h1 h2 => absurd h1 h2) rfl rfl Tryz.call33 ⟨rfl, rfl, trivial⟩ rfl rfl rfl rfl w4 ?_|refine zbx (f := 33) (xR (V ++ [txJ s.csv] ++ [txJ s.key] ++ [txJ s.attr] ++ [listJ (s.only.map txJ)] ++ [listJ (s.notl.map txJ)]) (K ++ [kCsv] ++ [kKey] ++ [kAttr] ++ [kOnly] ++ [kNot])) (xR (V ++ [txJ s.csv] ++ [txJ s.key] ++ [txJ s.attr] ++ [listJ (s.only.map txJ)] ++ [listJ (s.notl.map txJ)] ++ [boolJ s.texts]) (K ++ [kCsv] ++ [kKey] ++ [kAttr] ++ [kOnly] ++ [kNot] ++ [kTexts])) [101, 102] [101, 102] rfl rfl (by decide) (fun _ h => h) (fun k h1 h2 => absurd h1 h2) rfl rfl Tryz.call33 ⟨rfl, rfl, trivial⟩ rfl rfl rfl rfl w5 ?_|refine zbx (f := 33) (xR (V ++ [txJ s.csv] ++ [txJ s.key] ++ [txJ s.attr] ++ [listJ (s.only.map txJ)] ++ [listJ (s.notl.map txJ)] ++ [boolJ s.texts]) (K ++ [kCsv] ++ [kKey] ++ [kAttr] ++ [kOnly] ++ [kNot] ++ [kTexts])) (xR (V ++ [txJ s.csv] ++ [txJ s.key] ++ [txJ s.attr] ++ [listJ (s.only.map txJ)] ++ [listJ (s.notl.map txJ)] ++ [boolJ s.texts] ++ [boolJ s.drop]) (K ++ [kCsv] ++ [kKey] ++ [kAttr] ++ [kOnly] ++ [kNot] ++ [kTexts] ++ [kDrop])) [101, 102] [101, 102] rfl rfl (by decide) (fun _ h => h) (fun k h1 h2 => absurd h1 h2) rfl rfl Tryz.call33 ⟨rfl, rfl, trivial⟩ rfl rfl rfl rfl w6 ?_|with_reducible (first |refine zag ?_|refine zaa ?_|refine zaf ?_|refine zad ?_|refine zaj ?_|refine zaB ?_)|refine zab rfl rfl True.intro ?_|((first |refine zbr rfl ?_ ?_)<;>intro<;>try (first |contradiction))|((first |refine zab rfl rfl ?_ ?_|refine zao rfl rfl ?_ ?_|refine zaw rfl ?_ ?_);focus (first |exact le_ rfl|((repeat' refine And.intro ?_ ?_)<;>omega)|((repeat' refine And.intro ?_ ?_)<;>first |rfl|exact Nat.le_refl _)))|with_reducible refine ⟨by kernel_rfl, ?_⟩|refine zbp rfl ?_|fail)
    all_goals first
      | exact .of_eq rfl
      | trace_state

def hexD (n : Int) : UInt8 := by8 (if n < 10 then 48 + n else 87 + n)
def qI (n : Int) : List UInt8 :=
  if n = 8 then [92, 98] else if n = 9 then [92, 116] else if n = 10 then [92, 110] else if n = 12 then [92, 102] else if n = 13 then [92, 114]
  else if n = 34 then [92, 34] else if n = 92 then [92, 92] else if n < 32 then [92, 117, 48, 48, hexD (n / 16), hexD (n % 16)] else [by8 n]
def qL : List UInt8 → List UInt8
  | [] => []
  | c :: r => qI (c.toNat : Int) ++ qL r
def quoteL (s : List UInt8) : List UInt8 := if validL s = true then [34] ++ qL s ++ [34] else []
theorem znQ (a b : List UInt8) : qL (a ++ b) = qL a ++ qL b := by
  induction a with
  | nil => rfl
  | cons c r ih => simp [qL, ih]
theorem zoZ (s : List UInt8) (i : Nat) (h : i < s.length) : qL (s.take (i + 1)) = qL (s.take i) ++ qI (at' s i) := by
  rw [List.take_add_one, znQ]
  congr 1
  simp [at', h, qL, List.getD_eq_getElem?_getD]
theorem ztf (n : Int) : (qI n).length ≤ 6 := by
  unfold qI
  (repeat' split) <;> simp
theorem zlP : ∀ s : List UInt8, (qL s).length ≤ 6 * s.length
  | [] => by simp [qL]
  | c :: r => by
    have := zlP r
    have := ztf (c.toNat : Int)
    simp only [qL, List.length_append, List.length_cons]
    omega
theorem zbo (c : UInt8) : by8 (c.toNat : Int) = c := by simp [by8]
theorem dropAt {t rest : List UInt8} {c : UInt8} {p : Nat} (h : t.drop p = c :: rest) : at' t (p : Int) = (c.toNat : Int) ∧ p < t.length ∧ t.drop (p + 1) = rest := by
  have hp : p < t.length := by
    have : (t.drop p).length = rest.length + 1 := by rw [h]; rfl
    simp at this
    omega
  have hg : t[p] = c := by
    have : (t.drop p)[0]? = some c := by rw [h]; rfl
    simpa [hp] using this
  refine ⟨?_, hp, ?_⟩
  · simp [at', hp, hg, List.getD_eq_getElem?_getD]
  · rw [← List.drop_drop, h]
    rfl
theorem zrv (n : Int) (h0 : 0 ≤ n) (h1 : n < 16) : hexF ((hexD n).toNat : Int) = n := by
  unfold hexD
  rw [zcJ _ (by split <;> omega) (by split <;> omega)]
  exact zsK _ n h0 h1 (.inl rfl)
theorem zrj (t rest : List UInt8) (p : Nat) (a b c d : UInt8) (h : t.drop p = a :: b :: c :: d :: rest) (ha : 0 ≤ hexF (a.toNat : Int)) (hb : 0 ≤ hexF (b.toNat : Int)) (hc : 0 ≤ hexF (c.toNat : Int)) (hd : 0 ≤ hexF (d.toNat : Int)) :
    fourG t 4 0 (p : Int) = (16 * (16 * (16 * (16 * 0 + hexF (a.toNat : Int)) + hexF (b.toNat : Int)) + hexF (c.toNat : Int)) + hexF (d.toNat : Int), (p : Int) + 4, 0) := by
  obtain ⟨a1, a2, a3⟩ := dropAt h
  obtain ⟨b1, b2, b3⟩ := dropAt a3
  obtain ⟨c1, c2, c3⟩ := dropAt b3
  obtain ⟨d1, d2, d3⟩ := dropAt c3
  rw [show (((p + 1 : Nat)) : Int) = (p : Int) + 1 by omega] at b1
  rw [show (((p + 1 + 1 : Nat)) : Int) = (p : Int) + 1 + 1 by omega] at c1
  rw [show (((p + 1 + 1 + 1 : Nat)) : Int) = (p : Int) + 1 + 1 + 1 by omega] at d1
  rw [zcC (by omega) (by rw [a1]; omega), a1, zcC (by omega) (by rw [b1]; omega), b1, zcC (by omega) (by rw [c1]; omega), c1, zcC (by omega) (by rw [d1]; omega), d1]
  show (_, _, _) = (_, _, _)
  rw [show (p : Int) + 1 + 1 + 1 + 1 = p + 4 by omega]
theorem zqk (t rest o : List UInt8) (c : UInt8) (p n : Nat) (h : t.drop p = qI (c.toNat : Int) ++ rest) :
    unqG t (n + 1) (p : Int) o = unqG t n ((p + (qI (c.toNat : Int)).length : Nat) : Int) (o ++ [c]) := by
  have hc : (c.toNat : Int) < 256 := by have := c.toNat_lt; omega
  have key : ∀ (k v : UInt8), qI (c.toNat : Int) = [92, k] → ¬ (k.toNat : Int) = 117 → escE (k.toNat : Int) = 0 → by8 (escV (k.toNat : Int)) = c → unqG t (n + 1) (p : Int) o = unqG t n ((p + (qI (c.toNat : Int)).length : Nat) : Int) (o ++ [c]) := by
    intro k v hq hk he hv
    rw [hq] at h ⊢
    obtain ⟨a1, a2, a3⟩ := dropAt (show t.drop p = 92 :: (k :: rest) from h)
    obtain ⟨b1, b2, b3⟩ := dropAt a3
    rw [show (((p + 1 : Nat)) : Int) = (p : Int) + 1 by omega] at b1
    have e : escP t ((p : Int) + 1) o = ((p : Int) + 2, o ++ [c], 0) := by
      unfold escP
      rw [if_pos (by omega), b1, if_neg hk, he, hv, show (p : Int) + 1 + 1 = p + 2 by omega]
    rw [zdE (by omega) a1, e]
    rfl
  by_cases c8 : (c.toNat : Int) = 8
  · exact key 98 0 (by unfold qI; rw [if_pos c8]) (by decide) (by decide) (by rw [← zbo c, c8]; decide)
  by_cases c9 : (c.toNat : Int) = 9
  · exact key 116 0 (by unfold qI; rw [if_neg c8, if_pos c9]) (by decide) (by decide) (by rw [← zbo c, c9]; decide)
  by_cases c10 : (c.toNat : Int) = 10
  · exact key 110 0 (by unfold qI; rw [if_neg c8, if_neg c9, if_pos c10]) (by decide) (by decide) (by rw [← zbo c, c10]; decide)
  by_cases c12 : (c.toNat : Int) = 12
  · exact key 102 0 (by unfold qI; rw [if_neg c8, if_neg c9, if_neg c10, if_pos c12]) (by decide) (by decide) (by rw [← zbo c, c12]; decide)
  by_cases c13 : (c.toNat : Int) = 13
  · exact key 114 0 (by unfold qI; rw [if_neg c8, if_neg c9, if_neg c10, if_neg c12, if_pos c13]) (by decide) (by decide) (by rw [← zbo c, c13]; decide)
  by_cases c34 : (c.toNat : Int) = 34
  · exact key 34 0 (by unfold qI; rw [if_neg c8, if_neg c9, if_neg c10, if_neg c12, if_neg c13, if_pos c34]) (by decide) (by decide) (by rw [← zbo c, c34]; decide)
  by_cases c92 : (c.toNat : Int) = 92
  · exact key 92 0 (by unfold qI; rw [if_neg c8, if_neg c9, if_neg c10, if_neg c12, if_neg c13, if_neg c34, if_pos c92]) (by decide) (by decide) (by rw [← zbo c, c92]; decide)
  clear key
  by_cases c32 : (c.toNat : Int) < 32
  · have hq : qI (c.toNat : Int) = [92, 117, 48, 48, hexD ((c.toNat : Int) / 16), hexD ((c.toNat : Int) % 16)] := by
      unfold qI
      rw [if_neg c8, if_neg c9, if_neg c10, if_neg c12, if_neg c13, if_neg c34, if_neg c92, if_pos c32]
    rw [hq] at h ⊢
    obtain ⟨a1, a2, a3⟩ := dropAt (show t.drop p = 92 :: (117 :: 48 :: 48 :: hexD ((c.toNat : Int) / 16) :: hexD ((c.toNat : Int) % 16) :: rest) from h)
    obtain ⟨b1, b2, b3⟩ := dropAt a3
    have d1 := zrv ((c.toNat : Int) / 16) (by omega) (by omega)
    have d2 := zrv ((c.toNat : Int) % 16) (by omega) (by omega)
    have h48 : hexF (((48 : UInt8).toNat : Nat) : Int) = 0 := by decide
    have hf := zrj t rest (p + 1 + 1) 48 48 _ _ b3 (by omega) (by omega) (by omega) (by omega)
    rw [d1, d2, h48, show 16 * (16 * (16 * (16 * 0 + 0) + 0) + (c.toNat : Int) / 16) + (c.toNat : Int) % 16 = c.toNat by omega, show ((p + 1 + 1 : Nat) : Int) = (p : Int) + 1 + 1 by omega] at hf
    rw [show (((p + 1 : Nat)) : Int) = (p : Int) + 1 by omega] at b1
    have e : escP t ((p : Int) + 1) o = ((p : Int) + 6, o ++ [c], 0) := by
      unfold escP
      rw [if_pos (by omega), b1, if_pos (by decide), zfD hf (by omega), zoJ (by omega), zbo, show (p : Int) + 1 + 1 + 4 = p + 6 by omega]
    rw [zdE (by omega) a1, e]
    rfl
  · have hq : qI (c.toNat : Int) = [c] := by
      unfold qI
      rw [if_neg c8, if_neg c9, if_neg c10, if_neg c12, if_neg c13, if_neg c34, if_neg c92, if_neg c32, zbo]
    rw [hq] at h ⊢
    obtain ⟨a1, a2, a3⟩ := dropAt (show t.drop p = c :: rest from h)
    rw [zcZ (by omega) (by rw [a1]; exact c34) (by rw [a1]; exact c92) (by rw [a1]; exact c32), a1, zbo]
    rfl
theorem zha (t behind : List UInt8) : ∀ (r o : List UInt8) (p n : Nat), t.drop p = qL r ++ 34 :: behind → t.length + 1 ≤ p + n → validL (o ++ r) = true → unqG t n (p : Int) o = (o ++ r, ((p + (qL r).length : Nat) : Int) + 1, 0)
  | [], o, p, n, h, hn, hv => by
    obtain ⟨a1, a2, a3⟩ := dropAt (show t.drop p = 34 :: behind from h)
    obtain ⟨n, rfl⟩ : ∃ k, n = k + 1 := ⟨n - 1, by omega⟩
    rw [List.append_nil] at hv ⊢
    rw [zcu (by omega) a1 hv]
    rfl
  | c :: r, o, p, n, h, hn, hv => by
    have h2 : t.drop p = qI (c.toNat : Int) ++ (qL r ++ 34 :: behind) := by rw [h]; simp [qL]
    have hp : p < t.length := by
      by_cases hp : p < t.length
      · exact hp
      · rw [List.drop_eq_nil_of_le (by omega)] at h
        have := congrArg List.length h
        simp at this
    obtain ⟨n, rfl⟩ : ∃ k, n = k + 1 := ⟨n - 1, by omega⟩
    rw [zqk t _ o c p n h2]
    have hl : 1 ≤ (qI (c.toNat : Int)).length := by
      unfold qI
      (repeat' split) <;> simp
    rw [zha t behind r (o ++ [c]) (p + (qI (c.toNat : Int)).length) n (by rw [← List.drop_drop, h2, List.drop_left]) (by omega) (by simpa using hv)]
    simp only [qL, List.length_append, List.append_assoc, List.cons_append, List.nil_append]
    congr 2
    omega
theorem zoC (s ahead behind : List UInt8) (hv : validL s = true) : unqF (ahead ++ quoteL s ++ behind) ahead.length = (s, (ahead.length : Int) + (quoteL s).length, 0) := by
  have hq : quoteL s = [34] ++ qL s ++ [34] := if_pos hv
  rw [hq]
  generalize ht : ahead ++ ([34] ++ qL s ++ [34]) ++ behind = t
  have hd : t.drop ahead.length = 34 :: (qL s ++ 34 :: behind) := by
    rw [← ht, List.append_assoc, List.drop_left]
    simp
  obtain ⟨a1, a2, a3⟩ := dropAt hd
  have hm : mustF t (ahead.length : Int) 0 34 = ((ahead.length : Int) + 1, 0) := by
    unfold mustF
    rw [zdw rfl (by omega)]
    dsimp only
    rw [if_pos (by rw [a1]; rfl)]
  unfold unqF
  rw [if_neg (by omega), hm]
  dsimp only
  rw [if_pos rfl]
  have := zha t behind s [] (ahead.length + 1) (t.length + 1 - ((ahead.length : Int) + 1).toNat) a3 (by omega) hv
  rw [show (((ahead.length + 1 : Nat)) : Int) = (ahead.length : Int) + 1 by omega] at this
  rw [this]
  simp
  omega

section
variable {x r ds : List UInt8} {a : UInt8} {i : Nat}
theorem zsY {l : List UInt8} (h : x.drop i = a :: l) : i < x.length := by
  by_cases hi : i < x.length
  · exact hi
  · rw [List.drop_eq_nil_of_le (by omega)] at h
    cases h
theorem zhE (h : x.drop i = a :: r) : at' x i = (a.toNat : Int) := by
  have hi := zsY h
  rw [zdn hi] at h
  have := (List.cons.inj h).1
  unfold at'
  rw [Int.toNat_natCast, this]
theorem zfh (h : x.drop i = ds ++ r) : x.drop (i + ds.length) = r := by
  rw [← List.drop_drop, h, List.drop_left]
end
def aheadT (mp first : Bool) (ks : List (List UInt8)) : List UInt8 := (if first = true then [] else [44]) ++ (if mp = true then quoteL (ks.headD []) ++ [58] else [])
section
variable {x b : List UInt8} {a : UInt8} {i : Nat}
abbrev endsNum (a : UInt8) : Prop := isD a = false ∧ ¬ (a.toNat : Int) = 45 ∧ ¬ (a.toNat : Int) = 43 ∧ ¬ (a.toNat : Int) = 46 ∧ ¬ (a.toNat : Int) = 101 ∧ ¬ (a.toNat : Int) = 69
theorem znN (h : isD a = false) : dgT (x ++ a :: b) i = if i ≤ x.length then dgT x i else dgT (x ++ a :: b) i := by
  split
  · rename_i hi
    unfold dgT
    rw [List.drop_append_of_le_length hi]
    generalize x.drop i = q
    induction q with
    | nil => simp [h]
    | cons c q ih =>
      rw [List.cons_append, List.takeWhile_cons, List.takeWhile_cons, ih]
  · rfl
theorem zkw (h : isD a = false) (hi : i ≤ x.length) : dgT (x ++ a :: b) i = dgT x i := by rw [znN h, if_pos hi]
theorem zcG {c : Int} (h : ¬ (a.toNat : Int) = c) (hi : i ≤ x.length) : sat (x ++ a :: b) i c ↔ sat x i c := by
  unfold sat at'
  rw [Int.toNat_natCast]
  by_cases e : i < x.length
  · rw [List.getD_eq_getElem?_getD, List.getElem?_append_left e, ← List.getD_eq_getElem?_getD]
    simp only [List.length_append, List.length_cons, e, true_and]
    exact ⟨fun q => q.2, fun q => ⟨by omega, q⟩⟩
  · have : i = x.length := by omega
    subst this
    constructor
    · intro q
      exfalso
      apply h
      have := q.2
      simpa [List.getD_eq_getElem?_getD] using this
    · intro q
      exact absurd q.1 (Nat.lt_irrefl _)
theorem zrK (h : isD a = false) : ¬ (a.toNat : Int) = 48 := fun q => by
  have : isD a = true := zbE.2 (by omega)
  rw [h] at this
  cases this
theorem zsp (h : isD a = false) (hi : i ≤ x.length) : whN (x ++ a :: b) i = whN x i := by
  unfold whN
  rw [zkw h hi]
  simp only [zcG (zrK h) hi]
theorem zpw (hi : i ≤ x.length) : (whN x i).2 ≤ x.length := by
  unfold whN
  have := zcX x i
  split
  · rename_i q
    have := q.1
    dsimp only
    omega
  · dsimp only
    omega
theorem zsk (h : endsNum a) (hi : i ≤ x.length) : frN (x ++ a :: b) i = frN x i := by
  unfold frN
  simp only [zcG h.2.2.2.1 hi]
  by_cases q : sat x i 46
  · rw [zkw h.1 (show i + 1 ≤ x.length from q.1)]
  · rw [if_neg (fun e => q e.1), if_neg (fun e => q e.1)]
theorem zso (hi : i ≤ x.length) : (frN x i).2 ≤ x.length := by
  unfold frN
  have := zcX x (i + 1)
  split
  · rename_i q
    have := q.1.1
    dsimp only
    omega
  · exact hi
theorem zss {pw : List UInt8 → Int} (h : endsNum a) (hi : i ≤ x.length) : exN pw (x ++ a :: b) i = exN pw x i := by
  unfold exN
  simp only [zcG h.2.2.2.2.1 hi, zcG h.2.2.2.2.2 hi]
  by_cases q : sat x i 101 ∨ sat x i 69
  · have h1 : i + 1 ≤ x.length := by
      rcases q with q | q
      · exact q.1
      · exact q.1
    have e1 : sgN (x ++ a :: b) (i + 1) = sgN x (i + 1) := by
      unfold sgN
      simp only [zcG h.2.2.1 h1, zcG h.2.1 h1]
    have e2 : sgN x (i + 1) ≤ x.length := by
      unfold sgN
      split
      · rename_i q
        rcases q with q | q
        · exact q.1
        · exact q.1
      · exact h1
    rw [e1, zkw h.1 e2]
    simp only [zcG h.2.1 h1]
  · rw [if_neg (fun e => q e.1), if_neg (fun e => q e.1)]
theorem zjs {pw : List UInt8 → Int} (h : endsNum a) : parseG pw (x ++ a :: b) = parseG pw x := by
  have e0 : sg0 (x ++ a :: b) = sg0 x := by
    unfold sg0
    simp only [zcG (i := 0) h.2.1 (Nat.zero_le _)]
  have l0 : sg0 x ≤ x.length := by
    unfold sg0
    split
    · rename_i q
      exact q.1
    · exact Nat.zero_le _
  unfold parseG
  dsimp only
  rw [e0, zsp h.1 l0, zsk h (zpw l0), zss h (zso (zpw l0))]
  simp only [zcG (i := 0) h.2.1 (Nat.zero_le _)]
end
theorem zcd {s : List UInt8} (h : validL s = true) : ∃ r, quoteL s = 34 :: r := ⟨qL s ++ [34], by
  have hq : quoteL s = [34] ++ qL s ++ [34] := if_pos h
  rw [hq]
  rfl⟩
section
variable {s r b : List UInt8} {i : Nat} {a : UInt8}
theorem zcN (h : s.drop i = a :: r) (ha : blkB a = false) : jpeek s i = .inl i := by
  have hi := zsY h
  have e : skN s i = i := zqF (by
    rw [zdn hi] at h
    rw [(List.cons.inj h).1]
    exact ha)
  unfold jpeek
  rw [e, if_pos hi]
theorem zkx {l : List UInt8} (h : s.drop i = a :: l) : i ≤ s.length := Nat.le_of_lt (zsY h)
theorem znH {k : List UInt8} (hv : validL k = true) (h : s.drop i = quoteL k ++ b) : jtext s i = .inl (k, i + (quoteL k).length) := by
  obtain ⟨r, hr⟩ := zcd hv
  have hi : i ≤ s.length := zkx (l := r ++ b) (by rw [h, hr]; rfl)
  have e : s = s.take i ++ quoteL k ++ b := by rw [List.append_assoc, ← h, List.take_append_drop]
  have q := zoC k (s.take i) b hv
  rw [← e, List.length_take, Nat.min_eq_left hi] at q
  unfold jtext
  rw [q]
  dsimp only
  rw [if_pos rfl]
  refine congrArg Sum.inl (Prod.ext rfl ?_)
  dsimp only
  omega
theorem zjQ {w : List UInt8} {x : J} (h : s.drop i = w ++ b) : jword s i w x = .inl (x, i + w.length) := by
  unfold jword
  rw [if_pos]
  rw [h]
  unfold Lib.hasPrefix
  exact List.isPrefixOf_iff_prefix.2 (List.prefix_append _ _)
def endU (mp : Bool) : UInt8 := if mp = true then 125 else 93
theorem zdh (mp : Bool) : endsNum (endU mp) ∧ blkB (endU mp) = false ∧ ((endU mp).toNat : Int) = endM mp := by
  cases mp <;> decide
theorem ziW {mp : Bool} {ks kacc : List (List UInt8)} (h : s.drop i = aheadT mp true ks ++ b) (hk : mp = true → ∃ k kr, ks = k :: kr ∧ k ∉ kacc ∧ validL k = true) :
    jkeys s mp i kacc = .inl (if mp = true then kacc ++ [ks.headD []] else kacc, i + (aheadT mp true ks).length) := by
  cases mp with
  | false => rfl
  | true =>
    obtain ⟨k, kr, rfl, h2, h3⟩ := hk rfl
    have ha : aheadT true true (k :: kr) = quoteL k ++ [58] := rfl
    rw [ha] at h ⊢
    rw [List.append_assoc] at h
    obtain ⟨r, hr⟩ := zcd h3
    have p1 : jpeek s i = .inl i := zcN (a := 34) (r := r ++ ([58] ++ b)) (by rw [h, hr]; rfl) (by decide)
    have a1 : at' s i = 34 := zhE (a := 34) (r := r ++ ([58] ++ b)) (by rw [h, hr]; rfl)
    have t1 := znH h3 h
    have d2 : s.drop (i + (quoteL k).length) = 58 :: b := zfh h
    have p2 := zcN d2 (by decide)
    have a2 : at' s ((i + (quoteL k).length : Nat) : Int) = 58 := zhE d2
    unfold jkeys jkey
    rw [if_pos rfl, p1]
    dsimp only
    rw [if_neg (fun q => q a1), t1]
    dsimp only
    rw [if_neg h2, p2]
    dsimp only
    rw [if_neg (fun q => q a2)]
    dsimp only
    rw [if_pos rfl, List.length_append]
    rfl
theorem zpB (mp : Bool) (ks : List (List UInt8)) : (aheadT mp false ks) = 44 :: aheadT mp true ks := rfl
end

theorem zch {n m : Nat} {b xs : List UInt8} {f g : Nat → List D} (hn : n = b.length) (hm : m = xs.length) (hf : ∀ j, j < n → f j = bytesF b j) (hg : ∀ j, j < m → g j = bytesF xs j) : ∀ j, j < n + m → catF n f m g j = bytesF (b ++ xs) j := by
  subst hn hm
  intro j hj
  unfold catF
  by_cases h : j < b.length
  · rw [if_pos h, hf j h]
    simp [bytesF, List.getD_eq_getElem?_getD, h, List.getElem?_append_left]
  · rw [if_neg h, if_pos hj, hg _ (by omega)]
    simp [bytesF, List.getD_eq_getElem?_getD, List.getElem?_append_right (show b.length ≤ j by omega)]
theorem zmV {n : Nat} {b : List UInt8} {f : Nat → List D} (hn : n = b.length) (hf : ∀ j, j < n → f j = bytesF b j) : bytesOf n f = b := by
  subst hn
  refine Eq.trans ?_ (zbI b)
  unfold bytesOf
  apply List.map_congr_left
  intro j hj
  rw [hf j (by simpa using hj)]
abbrev hexS16 : List UInt8 := ({ data := #[48, 49, 50, 51, 52, 53, 54, 55, 56, 57, 97, 98, 99, 100, 101, 102] } : ByteArray).data.toList
theorem zlG (n : Int) (h0 : 0 ≤ n) (h1 : n < 16) : at' hexS16 n = ((hexD n).toNat : Int) := by
  obtain ⟨n, rfl⟩ := Int.eq_ofNat_of_zero_le h0
  rw [hexS n (by omega)]
  unfold hexD
  rw [zcJ _ (by split <;> omega) (by split <;> omega)]
theorem p4 : (2 : Int) ^ Int.toNat 4 = 16 := by decide
set_option maxRecDepth 100000 in
theorem ztB : ∀ x : _root_.Fin 256, bits .and .u8 ((x.val : Nat) : Int) 15 = ((x.val % 16 : Nat) : Int) := by decide
theorem and15 (n : Int) (h : 0 ≤ n) (h2 : n < 256) : bits .and .u8 n 15 = n % 16 := by
  have := ztB ⟨n.toNat, by omega⟩
  simp only at this
  rw [show ((n.toNat : Nat) : Int) = n by omega] at this
  rw [this]
  omega
section
variable {n : Int}
theorem qI_8 (h : n = 8) : qI n = [92, 98] := if_pos h
theorem qI_9 (h : n = 9) : qI n = [92, 116] := by subst h; rfl
theorem ztI (h : n = 10) : qI n = [92, 110] := by subst h; rfl
theorem ztN (h : n = 12) : qI n = [92, 102] := by subst h; rfl
theorem ztu (h : n = 13) : qI n = [92, 114] := by subst h; rfl
theorem ztY (h : n = 34) : qI n = [92, 34] := by subst h; rfl
theorem ztn (h : n = 92) : qI n = [92, 92] := by subst h; rfl
theorem zrM (c8 : ¬ n = 8) (c9 : ¬ n = 9) (c10 : ¬ n = 10) (c12 : ¬ n = 12) (c13 : ¬ n = 13) (h : n < 32) : qI n = [92, 117, 48, 48, hexD (n / 16), hexD (n % 16)] := by
  unfold qI
  rw [if_neg c8, if_neg c9, if_neg c10, if_neg c12, if_neg c13, if_neg (by omega), if_neg (by omega), if_pos h]
theorem zrw (c34 : ¬ n = 34) (c92 : ¬ n = 92) (h : ¬ n < 32) : qI n = [by8 n] := by
  unfold qI
  rw [if_neg (by omega), if_neg (by omega), if_neg (by omega), if_neg (by omega), if_neg (by omega), if_neg c34, if_neg c92, if_neg h]
end
theorem pt1 {a : Int} {x : UInt8} (h : a = (x.toNat : Int)) : ∀ j, j < 1 → chunk 1 [.i .u8 a] j = bytesF [x] j := fun j hj => by
  subst h
  match j, hj with
  | 0, _ => rfl
theorem pt2 {a b : Int} {x y : UInt8} (h : a = (x.toNat : Int)) (h2 : b = (y.toNat : Int)) : ∀ j, j < 2 → chunk 1 [.i .u8 a, .i .u8 b] j = bytesF [x, y] j := fun j hj => by
  subst h h2
  match j, hj with
  | 0, _ => rfl
  | 1, _ => rfl
theorem pt5 {a b c d e : Int} {x y z u v : UInt8} (h : a = (x.toNat : Int)) (h2 : b = (y.toNat : Int)) (h3 : c = (z.toNat : Int)) (h4 : d = (u.toNat : Int)) (h5 : e = (v.toNat : Int)) : ∀ j, j < 5 → chunk 1 [.i .u8 a, .i .u8 b, .i .u8 c, .i .u8 d, .i .u8 e] j = bytesF [x, y, z, u, v] j := fun j hj => by
  subst h h2 h3 h4 h5
  match j, hj with
  | 0, _ => rfl
  | 1, _ => rfl
  | 2, _ => rfl
  | 3, _ => rfl
  | 4, _ => rfl
set_option maxHeartbeats 2000000 in
theorem ziE (s : List UInt8) (hs : s.length ≤ 1048576) : Ctr Tryz.prog 99 [.s s] (.s (quoteL s)) := by
  have cv := zdd s (by omega)
  unfold quoteL
  cases hv : validL s with
  | false =>
    rw [hv] at cv
    clear hv
    refine zaE Tryz.func99 rfl Tryz.ntmps99 Tryz.results99 rfl rfl fun X hL hX => ?_
    repeat' (first |with_reducible (first |refine zag ?_|refine zaa ?_|refine zaf ?_|refine zad ?_|refine zaj ?_|refine zam ?_)|refine zab rfl rfl True.intro ?_|refine zav rfl ?_|refine zau rfl ?_|refine zai (f := 69) rfl rfl Tryz.call69 rfl cv ?_|fail)
    rfl
  | true =>
    rw [hv] at cv
    clear hv
    rw [if_pos rfl]
    refine zaE Tryz.func99 rfl Tryz.ntmps99 Tryz.results99 rfl rfl fun X hL hX => ?_
    repeat' (first |with_reducible (first |refine zag ?_|refine zaa ?_|refine zaf ?_|refine zad ?_|refine zah ?_|refine zae ?_)|refine zab rfl rfl True.intro ?_|refine zal rfl ?_|((first |refine zao rfl rfl ?_ ?_);focus (first |((repeat' refine And.intro ?_ ?_)<;>omega)|((repeat' refine And.intro ?_ ?_)<;>first |omega|rfl)))|refine zai (f := 69) rfl rfl Tryz.call69 rfl cv ?_|fail)
    refine T.loop hL (fun x : Nat × List UInt8 × (Nat → List D) => [(0, .s s), (3, .gs 9 1 x.2.1.length x.2.2), (11, .i .i64 s.length), (12, .i .i64 x.1)]) (fun x => [(9, .row 5 1 x.2.1.length)])
      (fun x => x.1 ≤ s.length ∧ x.2.1 = [34] ++ qL (s.take x.1) ∧ ∀ j, j < x.2.1.length → x.2.2 j = bytesF x.2.1 j) (fun x => s.length - x.1) (0, [34], chunk 1 [.i .u8 34]) ⟨Nat.zero_le _, rfl, pt1 rfl⟩
      ⟨⟨rfl, rfl, rfl, rfl, trivial⟩, ⟨rfl, trivial⟩, rfl, by rw [hX]; intro k hk; cases hk⟩ ?_
    rintro ⟨i, b, f⟩ ⟨g1, g2, g3⟩
    dsimp only at g1 g2 g3 ⊢
    have hb : b.length ≤ 6 * i + 1 := by
      have := zlP (s.take i)
      rw [g2, List.length_append]
      have : (s.take i).length ≤ i := by simp; omega
      simp
      omega
    have done : ∀ (fr : Fr) (ow : Ow) (xs : List UInt8) (n : Nat) (f' : Nat → List D), getD' 0 fr = .s s → getD' 3 fr = .gs 9 1 n f' → getD' 11 fr = .i .i64 s.length → getD' 12 fr = .i .i64 (i + 1) → leOw ow [(9, .row 5 1 n)] → i < s.length → qI (at' s i) = xs → n = b.length + xs.length →
        (∀ j, j < b.length + xs.length → f' j = bytesF (b ++ xs) j) →
        ∃ y : Nat × List UInt8 × (Nat → List D), (y.1 ≤ s.length ∧ y.2.1 = [34] ++ qL (s.take y.1) ∧ ∀ j, j < y.2.1.length → y.2.2 j = bytesF y.2.1 j) ∧ s.length - y.1 < s.length - i ∧
          Le X fr ow [(0, .s s), (3, .gs 9 1 y.2.1.length y.2.2), (11, .i .i64 s.length), (12, .i .i64 y.1)] [(9, .row 5 1 y.2.1.length)] := by
      intro fr ow xs n f' q1 q2 q3 q4 q5 q6 q7 q8 q9
      subst q8
      have hl : b.length + xs.length = (b ++ xs).length := List.length_append.symm
      rw [hl] at q9 q5 q2
      exact ⟨(i + 1, b ++ xs, f'), ⟨by dsimp only; omega, by dsimp only; rw [zoZ s i q6, q7, g2, List.append_assoc], q9⟩, by dsimp only; omega, ⟨q1, q2, q3, q4, trivial⟩, q5, rfl, by rw [hX]; intro k hk; cases hk⟩
    have l1 : hexS16.length = 16 := rfl
    have hr := zaH s i
    have e4 := p4
    have e15 := and15 _ hr.1 hr.2
    have g3 := fun _ : Unit => g3
    have low : Unit → ∀ j, j < b.length + 6 → catF (b.length + 5) (catF b.length f 5 (chunk 1 [.i .u8 92, .i .u8 117, .i .u8 48, .i .u8 48, .i .u8 (at' hexS16 (at' s i / 2 ^ Int.toNat 4))])) 1 (chunk 1 [.i .u8 (at' hexS16 (bits .and .u8 (at' s i) 15))]) j = bytesF (b ++ [92, 117, 48, 48, hexD (at' s i / 16), hexD (at' s i % 16)]) j := fun _ => by
      have h5 := pt5 (a := 92) (b := 117) (c := 48) (d := 48) (e := at' hexS16 (at' s i / 2 ^ Int.toNat 4)) (x := 92) (y := 117) (z := 48) (u := 48) (v := hexD (at' s i / 16)) rfl rfl rfl rfl (by rw [e4]; exact zlG _ (by omega) (by omega))
      have h1 := pt1 (a := at' hexS16 (bits .and .u8 (at' s i) 15)) (x := hexD (at' s i % 16)) (by rw [e15]; exact zlG _ (by omega) (by omega))
      have := zch (b := b ++ [92, 117, 48, 48, hexD (at' s i / 16)]) (n := b.length + 5) (m := 1) (xs := [hexD (at' s i % 16)]) (by simp) rfl (zch (m := 5) rfl rfl (g3 ()) h5) h1
      rw [List.append_assoc] at this
      exact this
    have two : ∀ x : UInt8, at' s i = (x.toNat : Int) → ∀ j, j < b.length + 2 → catF (b.length + 1) (catF b.length f 1 (chunk 1 [.i .u8 92])) 1 (chunk 1 [.i .u8 (at' s i)]) j = bytesF (b ++ [92, x]) j := fun x hx => by
      have := zch (b := b ++ [92]) (n := b.length + 1) (m := 1) (xs := [x]) (by simp) rfl (zch (m := 1) rfl rfl (g3 ()) (pt1 (a := 92) (x := 92) rfl)) (pt1 (a := at' s i) (x := x) hx)
      rw [List.append_assoc] at this
      exact this
    by_cases hi : i < s.length
    ·
      repeat' (first |with_reducible (first |refine zag ?_|refine zaa ?_|refine zaf ?_|refine zad ?_|refine zah ?_|refine zaA ?_|refine zae ?_|refine zap ?_|refine zaz ?_)|refine zab rfl rfl True.intro ?_|((first |refine zac rfl ?_ ?_)<;>intro<;>try (first |(exfalso;omega)))|((first |refine zab rfl rfl ?_ ?_|refine zao rfl rfl ?_ ?_);focus (first |omega|((repeat' refine And.intro ?_ ?_)<;>omega)|((repeat' refine And.intro ?_ ?_)<;>first |omega|rfl)|(simp_all;omega)))|refine zaO rfl ?_|refine zgk rfl ?_|fail)
      all_goals first
        | exact done _ _ [92, 98] _ _ rfl rfl rfl rfl ⟨rfl, trivial⟩ hi (qI_8 (by assumption)) rfl (zch rfl rfl (g3 ()) (pt2 rfl rfl))
        | exact done _ _ [92, 116] _ _ rfl rfl rfl rfl ⟨rfl, trivial⟩ hi (qI_9 (by assumption)) rfl (zch rfl rfl (g3 ()) (pt2 rfl rfl))
        | exact done _ _ [92, 110] _ _ rfl rfl rfl rfl ⟨rfl, trivial⟩ hi (ztI (by assumption)) rfl (zch rfl rfl (g3 ()) (pt2 rfl rfl))
        | exact done _ _ [92, 102] _ _ rfl rfl rfl rfl ⟨rfl, trivial⟩ hi (ztN (by assumption)) rfl (zch rfl rfl (g3 ()) (pt2 rfl rfl))
        | exact done _ _ [92, 114] _ _ rfl rfl rfl rfl ⟨rfl, trivial⟩ hi (ztu (by assumption)) rfl (zch rfl rfl (g3 ()) (pt2 rfl rfl))
        | exact done _ _ [by8 (at' s i)] _ _ rfl rfl rfl rfl ⟨rfl, trivial⟩ hi (zrw (by assumption) (by assumption) (by assumption)) rfl (zch rfl rfl (g3 ()) (pt1 (zcJ _ hr.1 hr.2).symm))
        | exact done _ _ [92, 117, 48, 48, hexD (at' s i / 16), hexD (at' s i % 16)] _ _ rfl rfl rfl rfl ⟨rfl, trivial⟩ hi (zrM (by assumption) (by assumption) (by assumption) (by assumption) (by assumption) (by assumption)) rfl (low ())
        | exact done _ _ [92, 34] _ _ rfl rfl rfl rfl ⟨rfl, trivial⟩ hi (ztY (by assumption)) rfl (two 34 (by assumption))
        | exact done _ _ [92, 92] _ _ rfl rfl rfl rfl ⟨rfl, trivial⟩ hi (ztn (by assumption)) rfl (two 92 (by assumption))
    · have hfin := zch (b := b) (m := 1) (xs := [34]) rfl rfl (g3 ()) (pt1 (a := 34) rfl)
      have hfin2 : ∀ j, j < b.length + 1 → ∃ n, catF b.length f 1 (chunk 1 [.i .u8 34]) j = [.i .u8 n] := fun j hj => ⟨_, hfin j hj⟩
      have hfin := fun _ : Unit => hfin
      have g2 := fun _ : Unit => g2
      clear done low two
      repeat' (first |with_reducible (first |refine zag ?_|refine zaa ?_|refine zaf ?_|refine zad ?_|refine zaj ?_|refine zaA ?_|refine zaz ?_)|refine zab rfl rfl True.intro ?_|((first |refine zac rfl ?_ ?_)<;>intro<;>try (first |(exfalso;omega)))|((first |refine zab rfl rfl ?_ ?_|refine zao rfl rfl ?_ ?_);focus (first |exact ⟨rfl, hfin2⟩|((repeat' refine And.intro ?_ ?_)<;>omega)|((repeat' refine And.intro ?_ ?_)<;>first |omega|rfl)))|refine zaO rfl ?_|refine zau rfl ?_|fail)
      rw [zmV (n := b.length + 1) (b := b ++ [34]) (by simp) (hfin ()), g2 (), List.take_of_length_le (by omega)]

theorem zpO (neg : Bool) (s : List UInt8) (e : Int) (hs : s.length ≤ 1048576) (h : ¬ RightP neg s e) : Ctr Tryz.prog 98 [dcD neg s e] (.s []) := by
  have c1 := zcs neg s e (by omega)
  rw [zeT h] at c1
  refine zaE Tryz.func98 rfl Tryz.ntmps98 Tryz.results98 rfl rfl fun X hL hX => ?_
  repeat' (first |with_reducible (first |refine zag ?_|refine zaa ?_|refine zaf ?_|refine zad ?_|refine zaj ?_|refine zam ?_)|refine zab rfl rfl True.intro ?_|refine zav rfl ?_|((first |refine zab rfl rfl ?_ ?_|refine zao rfl rfl ?_ ?_);focus (first |exact le_ rfl|((repeat' refine And.intro ?_ ?_)<;>omega)|((repeat' refine And.intro ?_ ?_)<;>first |rfl)))|refine zau rfl ?_|refine zai (f := 113) rfl rfl Tryz.call113 rfl c1 ?_|fail)
  rfl
theorem zpc (neg : Bool) (s : List UInt8) (e : Int) (hs : s.length ≤ 1048576) (h : ¬ RightP neg s e) : Ctr Tryz.prog 75 [dcD neg s e] (.s []) := by
  have c1 := zfa neg s e (by omega)
  rw [zeT h] at c1
  refine zaE Tryz.func75 rfl Tryz.ntmps75 Tryz.results75 rfl rfl fun X hL hX => ?_
  repeat' (first |with_reducible (first |refine zag ?_|refine zaa ?_|refine zaf ?_|refine zad ?_|refine zaj ?_|refine zam ?_)|refine zab rfl rfl True.intro ?_|refine zav rfl ?_|((first |refine zab rfl rfl ?_ ?_|refine zao rfl rfl ?_ ?_);focus (first |exact le_ rfl|((repeat' refine And.intro ?_ ?_)<;>omega)|((repeat' refine And.intro ?_ ?_)<;>first |rfl)))|refine zau rfl ?_|refine zai (f := 59) rfl rfl Tryz.call59 rfl c1 ?_|fail)
  rfl
section
variable {s : List UInt8} {e : Int}
theorem zkD (h : 0 ≤ e) (h2 : s.length + e ≤ 21) : textU s e = s ++ zs e.toNat := if_pos ⟨h, h2⟩
theorem zkE (h : ¬ (0 ≤ e ∧ s.length + e ≤ 21)) (h2 : 1 ≤ s.length + e) (h3 : s.length + e < s.length) : textU s e = s.take (s.length + e).toNat ++ [46] ++ s.drop (s.length + e).toNat := by
  unfold textU
  rw [if_neg h, if_pos ⟨h2, h3⟩]
theorem zjS (h : ¬ (0 ≤ e ∧ s.length + e ≤ 21)) (h2 : -6 ≤ s.length + e) (h3 : s.length + e ≤ 0) : textU s e = [48, 46] ++ zs (-(s.length + e)).toNat ++ s := by
  unfold textU
  rw [if_neg h, if_neg (by omega), if_pos ⟨h2, h3⟩]
theorem zkh (h : ¬ (0 ≤ e ∧ s.length + e ≤ 21)) (h2 : ¬ (1 ≤ s.length + e ∧ s.length + e < s.length)) (h3 : ¬ (-6 ≤ s.length + e ∧ s.length + e ≤ 0)) : textU s e = s.take 1 ++ (if 1 < s.length then [46] ++ s.drop 1 else []) ++ [101] ++ Lib.itoa (s.length + e - 1) := by
  unfold textU
  rw [if_neg h, if_neg h2, if_neg h3]
end
set_option maxHeartbeats 2000000 in
theorem ztc (neg : Bool) (s : List UInt8) (e : Int) (h : RightP neg s e) (h0 : ¬ s.length = 0) : Ctr Tryz.prog 98 [dcD neg s e] (.s ((if neg = true then [45] else []) ++ textU s e)) := by
  obtain ⟨b1, b2, b3, b4⟩ := h.bounds
  have c1 := zcs neg s e (by omega)
  rw [zcE.2 h] at c1
  have c2 := fun h => zjX e h (by omega)
  have c3 := fun h => zjX (-(s.length + e)) h (by omega)
  have c4 := zli (s.length + e - 1) (by omega) (by omega)
  have l4 := zhS (s.length + e - 1) (by omega) (by omega)
  have u1 := fun h h2 => zkD (s := s) (e := e) h h2
  have u2 := fun h h2 h3 => zkE (s := s) (e := e) h h2 h3
  have u3 := fun h h2 h3 => zjS (s := s) (e := e) h h2 h3
  have u4 := fun h h2 h3 => zkh (s := s) (e := e) h h2 h3
  have lz : ∀ n : Nat, (zs n).length = n := fun n => by simp
  generalize textU s e = U at *
  generalize Lib.itoa (s.length + e - 1) = I at *
  clear h
  refine zaE Tryz.func98 rfl Tryz.ntmps98 Tryz.results98 rfl rfl fun X hL hX => ?_
  cases neg with
  | false =>
    repeat' (first |with_reducible (first |refine zag ?_|refine zaa ?_|refine zaf ?_|refine zad ?_|refine zaj ?_|refine zah ?_|refine zae ?_|refine zap ?_|refine zam ?_|refine zar ?_|refine zaB ?_)|refine zab rfl rfl True.intro ?_|refine zat rfl rfl rfl ?_|refine zak rfl rfl rfl rfl True.intro ?_|refine zal rfl ?_|((first |refine zac rfl ?_ ?_|refine zan rfl rfl ?_ ?_)<;>intro<;>try (first |(exfalso;omega)))|((first |refine zab rfl rfl ?_ ?_|refine zao rfl rfl ?_ ?_);focus (first |(simp only [List.length_append, List.length_drop, List.length_take, lz, List.length_cons, List.length_nil];omega)|omega|exact le_ rfl|((repeat' refine And.intro ?_ ?_)<;>omega)|((repeat' refine And.intro ?_ ?_)<;>first |rfl)))|with_reducible refine ⟨by kernel_rfl, ?_⟩|refine zau rfl ?_|refine zai (f := 113) rfl rfl Tryz.call113 rfl c1 ?_|refine zai (f := 114) rfl rfl Tryz.call114 rfl (c2 (by omega)) ?_|refine zai (f := 114) rfl rfl Tryz.call114 rfl (c3 (by omega)) ?_|refine zai (f := 94) rfl rfl Tryz.call94 rfl c4 ?_|fail)
    · rw [u1 (by omega) (by omega)]
      exact congrArg D.s (by simp)
    · rw [u4 (by omega) (by omega) (by omega), if_pos (show 1 < s.length by omega)]
      exact congrArg D.s (by simp)
    · rw [u4 (by omega) (by omega) (by omega), if_neg (show ¬ 1 < s.length by omega)]
      exact congrArg D.s (by simp)
    · rw [u2 (by omega) (by omega) (by omega)]
      exact congrArg D.s (by simp)
    · rw [u3 (by omega) (by omega) (by omega)]
      exact congrArg D.s (by simp)
    · rw [u4 (by omega) (by omega) (by omega), if_pos (show 1 < s.length by omega)]
      exact congrArg D.s (by simp)
    · rw [u4 (by omega) (by omega) (by omega), if_neg (show ¬ 1 < s.length by omega)]
      exact congrArg D.s (by simp)
  | true =>
    repeat' (first |with_reducible (first |refine zag ?_|refine zaa ?_|refine zaf ?_|refine zad ?_|refine zaj ?_|refine zah ?_|refine zae ?_|refine zap ?_|refine zam ?_|refine zar ?_|refine zaB ?_)|refine zab rfl rfl True.intro ?_|refine zat rfl rfl rfl ?_|refine zak rfl rfl rfl rfl True.intro ?_|refine zav rfl ?_|refine zal rfl ?_|((first |refine zac rfl ?_ ?_|refine zan rfl rfl ?_ ?_)<;>intro<;>try (first |(exfalso;omega)))|((first |refine zab rfl rfl ?_ ?_|refine zao rfl rfl ?_ ?_);focus (first |(simp only [List.length_append, List.length_drop, List.length_take, lz, List.length_cons, List.length_nil];omega)|omega|exact le_ rfl|((repeat' refine And.intro ?_ ?_)<;>omega)|((repeat' refine And.intro ?_ ?_)<;>first |rfl)))|with_reducible refine ⟨by kernel_rfl, ?_⟩|refine zau rfl ?_|refine zai (f := 113) rfl rfl Tryz.call113 rfl c1 ?_|refine zai (f := 114) rfl rfl Tryz.call114 rfl (c2 (by omega)) ?_|refine zai (f := 114) rfl rfl Tryz.call114 rfl (c3 (by omega)) ?_|refine zai (f := 94) rfl rfl Tryz.call94 rfl c4 ?_|fail)
    · rw [u1 (by omega) (by omega)]
      exact congrArg D.s (by simp)
    · rw [u4 (by omega) (by omega) (by omega), if_pos (show 1 < s.length by omega)]
      exact congrArg D.s (by simp)
    · rw [u4 (by omega) (by omega) (by omega), if_neg (show ¬ 1 < s.length by omega)]
      exact congrArg D.s (by simp)
    · rw [u2 (by omega) (by omega) (by omega)]
      exact congrArg D.s (by simp)
    · rw [u3 (by omega) (by omega) (by omega)]
      exact congrArg D.s (by simp)
    · rw [u4 (by omega) (by omega) (by omega), if_pos (show 1 < s.length by omega)]
      exact congrArg D.s (by simp)
    · rw [u4 (by omega) (by omega) (by omega), if_neg (show ¬ 1 < s.length by omega)]
      exact congrArg D.s (by simp)
set_option maxHeartbeats 2000000 in
theorem zrg (neg : Bool) (s : List UInt8) (e : Int) (h : RightP neg s e) (h0 : ¬ s.length = 0) : Ctr Tryz.prog 75 [dcD neg s e] (.s ((if neg = true then [45] else []) ++ textU s e)) := by
  obtain ⟨b1, b2, b3, b4⟩ := h.bounds
  have c1 := zfa neg s e (by omega)
  rw [zcE.2 h] at c1
  have c2 := fun h => zja e h (by omega)
  have c3 := fun h => zja (-(s.length + e)) h (by omega)
  have c4 := zqq (s.length + e - 1) (by omega) (by omega)
  have l4 := zhS (s.length + e - 1) (by omega) (by omega)
  have u1 := fun h h2 => zkD (s := s) (e := e) h h2
  have u2 := fun h h2 h3 => zkE (s := s) (e := e) h h2 h3
  have u3 := fun h h2 h3 => zjS (s := s) (e := e) h h2 h3
  have u4 := fun h h2 h3 => zkh (s := s) (e := e) h h2 h3
  have lz : ∀ n : Nat, (zs n).length = n := fun n => by simp
  generalize textU s e = U at *
  generalize Lib.itoa (s.length + e - 1) = I at *
  clear h
  refine zaE Tryz.func75 rfl Tryz.ntmps75 Tryz.results75 rfl rfl fun X hL hX => ?_
  cases neg with
  | false =>
    repeat' (first |with_reducible (first |refine zag ?_|refine zaa ?_|refine zaf ?_|refine zad ?_|refine zaj ?_|refine zah ?_|refine zaB ?_)|refine zab rfl rfl True.intro ?_|refine zat rfl rfl rfl ?_|refine zak rfl rfl rfl rfl True.intro ?_|refine zal rfl ?_|((first |refine zac rfl ?_ ?_|refine zan rfl rfl ?_ ?_)<;>intro<;>try (first |(exfalso;omega)))|((first |refine zab rfl rfl ?_ ?_|refine zak rfl rfl rfl rfl ?_ ?_|refine zao rfl rfl ?_ ?_);focus (first |(simp only [List.length_append, List.length_drop, List.length_take, lz, List.length_cons, List.length_nil];omega)|omega|exact le_ rfl|((repeat' refine And.intro ?_ ?_)<;>omega)|((repeat' refine And.intro ?_ ?_)<;>first |rfl)))|with_reducible refine ⟨by kernel_rfl, ?_⟩|refine zau rfl ?_|refine zai (f := 59) rfl rfl Tryz.call59 rfl c1 ?_|refine zai (f := 105) rfl rfl Tryz.call105 rfl (c2 (by omega)) ?_|refine zai (f := 105) rfl rfl Tryz.call105 rfl (c3 (by omega)) ?_|refine zai (f := 106) rfl rfl Tryz.call106 rfl c4 ?_|fail)
    · rw [u1 (by omega) (by omega)]
      exact congrArg D.s (by simp)
    · rw [u4 (by omega) (by omega) (by omega), if_neg (show ¬ 1 < s.length by omega), List.take_of_length_le (show s.length ≤ 1 by omega)]
      exact congrArg D.s (by simp)
    · rw [u4 (by omega) (by omega) (by omega), if_pos (show 1 < s.length by omega)]
      exact congrArg D.s (by simp)
    · rw [u2 (by omega) (by omega) (by omega)]
      exact congrArg D.s (by simp)
    · rw [u3 (by omega) (by omega) (by omega)]
      exact congrArg D.s (by simp)
    · rw [u4 (by omega) (by omega) (by omega), if_neg (show ¬ 1 < s.length by omega), List.take_of_length_le (show s.length ≤ 1 by omega)]
      exact congrArg D.s (by simp)
    · rw [u4 (by omega) (by omega) (by omega), if_pos (show 1 < s.length by omega)]
      exact congrArg D.s (by simp)
  | true =>
    repeat' (first |with_reducible (first |refine zag ?_|refine zaa ?_|refine zaf ?_|refine zad ?_|refine zaj ?_|refine zah ?_|refine zam ?_|refine zaB ?_)|refine zab rfl rfl True.intro ?_|refine zat rfl rfl rfl ?_|refine zak rfl rfl rfl rfl True.intro ?_|refine zav rfl ?_|refine zal rfl ?_|((first |refine zac rfl ?_ ?_|refine zan rfl rfl ?_ ?_)<;>intro<;>try (first |(exfalso;omega)))|((first |refine zab rfl rfl ?_ ?_|refine zak rfl rfl rfl rfl ?_ ?_|refine zao rfl rfl ?_ ?_);focus (first |(simp only [List.length_append, List.length_drop, List.length_take, lz, List.length_cons, List.length_nil];omega)|omega|exact le_ rfl|((repeat' refine And.intro ?_ ?_)<;>omega)|((repeat' refine And.intro ?_ ?_)<;>first |rfl)))|with_reducible refine ⟨by kernel_rfl, ?_⟩|refine zau rfl ?_|refine zai (f := 59) rfl rfl Tryz.call59 rfl c1 ?_|refine zai (f := 105) rfl rfl Tryz.call105 rfl (c2 (by omega)) ?_|refine zai (f := 105) rfl rfl Tryz.call105 rfl (c3 (by omega)) ?_|refine zai (f := 106) rfl rfl Tryz.call106 rfl c4 ?_|fail)
    · rw [u1 (by omega) (by omega)]
      exact congrArg D.s (by simp)
    · rw [u4 (by omega) (by omega) (by omega), if_neg (show ¬ 1 < s.length by omega), List.take_of_length_le (show s.length ≤ 1 by omega)]
      exact congrArg D.s (by simp)
    · rw [u4 (by omega) (by omega) (by omega), if_pos (show 1 < s.length by omega)]
      exact congrArg D.s (by simp)
    · rw [u2 (by omega) (by omega) (by omega)]
      exact congrArg D.s (by simp)
    · rw [u3 (by omega) (by omega) (by omega)]
      exact congrArg D.s (by simp)
    · rw [u4 (by omega) (by omega) (by omega), if_neg (show ¬ 1 < s.length by omega), List.take_of_length_le (show s.length ≤ 1 by omega)]
      exact congrArg D.s (by simp)
    · rw [u4 (by omega) (by omega) (by omega), if_pos (show 1 < s.length by omega)]
      exact congrArg D.s (by simp)
end Go.Proofs.YtcajofhafpkbdaaGreatDoor.Flow
