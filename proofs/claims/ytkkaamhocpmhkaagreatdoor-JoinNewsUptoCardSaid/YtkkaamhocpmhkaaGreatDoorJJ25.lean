/- The texts H19, T9, T13, one behind the other. -/
import Derived.Test.YtkkaamhocpmhkaaGreatDoorJJ15
import Derived.Test.YtkkaamhocpmhkaaGreatDoorJJ16
import Derived.Test.YtkkaamhocpmhkaaGreatDoorJJ17
import Derived.Test.YtkkaamhocpmhkaaGreatDoorJJ22
import Derived.Test.YtkkaamhocpmhkaaGreatDoorJJ24
namespace Go.Proofs.YtkkaamhocpmhkaaGreatDoor.Flow
open Go
theorem tab_e {s : Tx} {j : JnR} (h : ¬ (Csv.parseG s).2.2 = 0) : tabJ s j = ([], (Csv.parseG s).2.2) := if_pos h
theorem tab_k {s : Tx} {j : JnR} (h : (Csv.parseG s).2.2 = 0) (hk : ¬ (j.key ∈ namesR (Csv.parseG s).1 ∧ hasAllT (namesR (Csv.parseG s).1) j.only ∧ hasAllT (namesR (Csv.parseG s).1) j.notl)) : tabJ s j = ([], 6) := by
  unfold tabJ
  rw [if_neg (not_not_intro h), if_pos hk]
theorem tab_n {s : Tx} {j : JnR} (h : (Csv.parseG s).2.2 = 0) (hk : j.key ∈ namesR (Csv.parseG s).1 ∧ hasAllT (namesR (Csv.parseG s).1) j.only ∧ hasAllT (namesR (Csv.parseG s).1) j.notl) (hn : ¬ rightN (namesR (Csv.parseG s).1)) : tabJ s j = ([], 3) := by
  unfold tabJ
  rw [if_neg (not_not_intro h), if_neg (not_not_intro hk), if_pos hn]
theorem zrI {s : Tx} {j : JnR} (h : (Csv.parseG s).2.2 = 0) (hk : j.key ∈ namesR (Csv.parseG s).1 ∧ hasAllT (namesR (Csv.parseG s).1) j.only ∧ hasAllT (namesR (Csv.parseG s).1) j.notl) (hn : rightN (namesR (Csv.parseG s).1)) : tabJ s j = ((Csv.parseG s).1, 0) := by
  unfold tabJ
  rw [if_neg (not_not_intro h), if_neg (not_not_intro hk), if_neg (not_not_intro hn)]
theorem zlS {l : List Tx} {i : Nat} (h : i ≤ l.length) : Weak (.sl 1 ((i : Int).toNat - Int.toNat 0) (fun k => Csv.rowF l (Int.toNat 0 + k))) (.sl 1 (l.take i).length (Csv.rowF (l.take i))) := by
  have e : (l.take i).length = (i : Int).toNat - Int.toNat 0 := by
    rw [List.length_take, Int.toNat_natCast]
    exact Nat.min_eq_left h
  have e2 : ∀ k, k < i → Csv.rowF (l.take i) k = Csv.rowF l (Int.toNat 0 + k) := fun k hk => by
    have : (l.take i).getD k [] = l.getD k [] := by
      rw [List.getD_eq_getElem?_getD, List.getD_eq_getElem?_getD, List.getElem?_take_of_lt hk]
    rw [show Int.toNat 0 + k = k from Nat.zero_add k]
    unfold Csv.rowF
    rw [this]
  rw [e]
  have hi : (i : Int).toNat - Int.toNat 0 = i := by rw [Int.toNat_natCast]; rfl
  exact .sl _ _ _ _ (fun k hk => by rw [e2 k (by omega)]; exact ⟨rfl, rfl⟩) fun k j hk hj => by
    rw [e2 k (by omega)]
    exact .refl _
theorem zhD {ns l : List Tx} {i : Nat} (h : i < l.length) (hn : l.getD i [] ∉ ns) : ¬ hasAllT ns l := fun q => hn (q i h)
set_option maxRecDepth 100000 in
set_option maxHeartbeats 8000000 in
theorem zif (s : Tx) (j : JnR) (hs : s.length ≤ 1000000) (h1 : j.only.length ≤ 4194304) (h2 : j.notl.length ≤ 4194304) : Ctr Tryz.prog 10 [.s s, .ag (jnP j)] (.tu [.sl 1 (tabJ s j).1.length (Csv.tabF (tabJ s j).1), .i .i64 (tabJ s j).2]) := by
  have c1 := Csv.rparse_ctr s (by omega)
  obtain ⟨hg, hn⟩ := Csv.parse_good s
  obtain ⟨n1, n2⟩ := zaI hg
  have tE := tab_e (s := s) (j := j)
  have tK := tab_k (s := s) (j := j)
  have tN := tab_n (s := s) (j := j)
  have tO := zrI (s := s) (j := j)
  generalize tabJ s j = R at *
  generalize Csv.parseG s = r at *
  obtain ⟨rows, at', e⟩ := r
  dsimp only at hg hn n1 n2 tE tK tN tO ⊢
  unfold Csv.parsed at c1
  dsimp only at c1
  unfold namesR at *
  refine zax Tryz.func10 rfl Tryz.ntmps10 Tryz.results10 rfl rfl fun X hL hX => ?_
  by_cases he : e = 0
  rotate_left
  · rw [tE he]
    dsimp only
    repeat' (first |refine zae (f := 34) rfl rfl Tryz.call34 rfl c1 ?_|with_reducible (first |refine zah ?_|refine zaa ?_|refine zag ?_|refine zad ?_|refine zan ?_|refine zam ?_)|refine zab rfl rfl True.intro ?_|((first |refine zaR rfl ?_ ?_)<;>intro<;>try (first |(exfalso;omega)))|((first |refine zav rfl rfl ?_ ?_);focus (first |((repeat' refine And.intro ?_ ?_)<;>omega)|((repeat' refine And.intro ?_ ?_)<;>first |rfl)))|refine zbN rfl (.tu2 (.nil 1 _) (.refl _))|fail)
    all_goals first
      | rfl
      | (exfalso; omega)
      | trace_state
  clear tE
  subst he
  have hS : ∀ i, i < (rows.getD 0 []).length → True := fun _ _ => trivial
  by_cases hr : rows.length = 0
  · have hr' : (rows.length : Int) = 0 := by omega
    have hz : rows.getD 0 [] = [] := by
      cases rows with
      | nil => rfl
      | cons => cases hr
    rw [tK rfl (fun q => by rw [hz] at q; exact (List.not_mem_nil q.1).elim)]
    dsimp only
    repeat' (first |refine zae (f := 34) rfl rfl Tryz.call34 rfl c1 ?_|with_reducible (first |refine zah ?_|refine zaa ?_|refine zag ?_|refine zad ?_|refine zan ?_|refine zai ?_|refine zam ?_|refine zaC ?_)|refine zab rfl rfl True.intro ?_|refine zap rfl rfl rfl ?_|refine zau rfl ?_|refine zal rfl ?_|((first |refine zak rfl rfl ?_ ?_)<;>intro<;>try (first |(exfalso;omega)))|((first |refine zav rfl rfl ?_ ?_);focus (first |((repeat' refine And.intro ?_ ?_)<;>omega)|((repeat' refine And.intro ?_ ?_)<;>first |rfl)))|with_reducible refine ⟨by kernel_rfl, ?_⟩|refine zbN rfl (.tu2 (.nil 1 _) (.refl _))|fail)
    all_goals first
      | rfl
      | (exfalso; omega)
      | trace_state
  have hr' : ¬ (rows.length : Int) = 0 := by omega
  have hr2 : (0 : Int) < (rows.length : Int) := by omega
  have cI := fun x => zhf (rows.getD 0 []) x (by omega)
  have cK := cI j.key
  by_cases hk : j.key ∈ rows.getD 0 []
  rotate_left
  · rw [tK rfl (fun q => hk q.1)]
    rw [decide_eq_false hk] at cK
    dsimp only
    repeat' (first |refine zae (f := 34) rfl rfl Tryz.call34 rfl c1 ?_|refine zaw (f := 35) rfl rfl rfl rfl Tryz.call35 rfl cK ?_|with_reducible (first |refine zah ?_|refine zaa ?_|refine zag ?_|refine zad ?_|refine zan ?_|refine zai ?_|refine zam ?_|refine zaC ?_)|refine zab rfl rfl True.intro ?_|refine zaj rfl rfl rfl rfl True.intro ?_|refine zau rfl ?_|refine zal rfl ?_|((first |refine zak rfl rfl ?_ ?_)<;>intro<;>try (first |(exfalso;omega)))|((first |refine zaj rfl rfl rfl rfl ?_ ?_|refine zav rfl rfl ?_ ?_);focus (first |omega|exact le_ rfl|((repeat' refine And.intro ?_ ?_)<;>omega)|((repeat' refine And.intro ?_ ?_)<;>first |rfl)))|with_reducible refine ⟨by kernel_rfl, ?_⟩|refine zbN rfl (.tu2 (.nil 1 _) (.refl _))|fail)
    all_goals first
      | rfl
      | (exfalso; omega)
      | trace_state
  rw [decide_eq_true hk] at cK
  repeat' (first |refine zae (f := 34) rfl rfl Tryz.call34 rfl c1 ?_|refine zaw (f := 35) rfl rfl rfl rfl Tryz.call35 rfl cK ?_|with_reducible (first |refine zah ?_|refine zaa ?_|refine zag ?_|refine zad ?_|refine zai ?_|refine zaf ?_|refine zaC ?_)|refine zab rfl rfl True.intro ?_|refine zaj rfl rfl rfl rfl True.intro ?_|refine zal rfl ?_|((first |refine zak rfl rfl ?_ ?_)<;>intro<;>try (first |(exfalso;omega)))|((first |refine zaj rfl rfl rfl rfl ?_ ?_|refine zav rfl rfl ?_ ?_);focus (first |omega|exact le_ rfl|((repeat' refine And.intro ?_ ?_)<;>omega)|((repeat' refine And.intro ?_ ?_)<;>first |rfl)))|with_reducible refine ⟨by kernel_rfl, ?_⟩|fail)
  clear cK c1
  refine T.loop hL (fun i : Nat => [(3, .pv 3 0), (6, .sl 1 rows.length (Csv.tabF rows)), (9, .i .i64 i)]) (fun _ => [(3, .var (jnP j))])
    (fun i => i ≤ j.only.length ∧ ∀ k, k < i → j.only.getD k [] ∈ rows.getD 0 []) (fun i => j.only.length - i) 0 ⟨Nat.zero_le _, fun k h => absurd h (Nat.not_lt_zero _)⟩
    ⟨⟨rfl, rfl, rfl, trivial⟩, ⟨rfl, trivial⟩, rfl, by rw [hX]; simp⟩ ?_
  rintro i ⟨g1, g2⟩
  try dsimp only at g1 g2 ⊢
  have hnat : (i : Int).toNat = i := Int.toNat_natCast i
  by_cases hi : i < j.only.length
  · have hi' : (i : Int) < (j.only.length : Int) := by omega
    have cJ := cI (j.only.getD (i : Int).toNat [])
    by_cases hm : j.only.getD i [] ∈ rows.getD 0 []
    · rw [decide_eq_true (by rw [hnat]; exact hm)] at cJ
      have g3 : ∀ k, k < i + 1 → j.only.getD k [] ∈ rows.getD 0 [] := fun k hk => by
        by_cases q : k = i
        · rw [q]
          exact hm
        · exact g2 k (by omega)
      clear g2
      repeat' (first |refine zae (f := 35) rfl rfl Tryz.call35 rfl cJ ?_|with_reducible (first |refine zah ?_|refine zaa ?_|refine zag ?_|refine zad ?_|refine zai ?_|refine zaf ?_|refine zao ?_|refine zaC ?_)|refine zab rfl rfl True.intro ?_|refine zal rfl ?_|((first |refine zac rfl ?_ ?_)<;>intro<;>try (first |(exfalso;omega)))|((first |refine zab rfl rfl ?_ ?_);focus (first |omega|exact le_ rfl|((repeat' refine And.intro ?_ ?_)<;>omega)))|with_reducible refine ⟨by kernel_rfl, ?_⟩|fail)
      all_goals exact ⟨i + 1, ⟨by omega, g3⟩, by omega, ⟨rfl, rfl, rfl, trivial⟩, ⟨rfl, trivial⟩, rfl, by rw [hX]; simp⟩
    · rw [decide_eq_false (by rw [hnat]; exact hm)] at cJ
      rw [tK rfl (fun q => zhD hi hm q.2.1)]
      clear g2
      dsimp only
      repeat' (first |refine zae (f := 35) rfl rfl Tryz.call35 rfl cJ ?_|with_reducible (first |refine zah ?_|refine zaa ?_|refine zag ?_|refine zad ?_|refine zan ?_|refine zai ?_|refine zaf ?_|refine zam ?_|refine zaz ?_|refine zaC ?_)|refine zab rfl rfl True.intro ?_|refine zau rfl ?_|((first |refine zac rfl ?_ ?_)<;>intro<;>try (first |(exfalso;omega)))|((first |refine zab rfl rfl ?_ ?_);focus (first |omega|exact le_ rfl|((repeat' refine And.intro ?_ ?_)<;>omega)))|with_reducible refine ⟨by kernel_rfl, ?_⟩|refine zbN rfl (.tu2 (.nil 1 _) (.refl _))|fail)
      all_goals rfl
  have hi' : ¬ (i : Int) < (j.only.length : Int) := by omega
  have hO : hasAllT (rows.getD 0 []) j.only := fun k hk => g2 k (by omega)
  clear g2 
  repeat' (first |with_reducible (first |refine zah ?_|refine zaa ?_|refine zag ?_|refine zad ?_|refine zat ?_|refine zaf ?_|refine zas ?_)|refine zab rfl rfl True.intro ?_|((first |refine zac rfl ?_ ?_)<;>intro<;>try (first |(exfalso;omega)))|((first |refine zab rfl rfl ?_ ?_);focus (first |exact le_ rfl|((repeat' refine And.intro ?_ ?_)<;>omega)))|refine zaB rfl ?_|fail)
  refine T.loop hL (fun i : Nat => [(3, .pv 3 0), (6, .sl 1 rows.length (Csv.tabF rows)), (10, .i .i64 i)]) (fun _ => [(3, .var (jnP j))])
    (fun i => i ≤ j.notl.length ∧ ∀ k, k < i → j.notl.getD k [] ∈ rows.getD 0 []) (fun i => j.notl.length - i) 0 ⟨Nat.zero_le _, fun k h => absurd h (Nat.not_lt_zero _)⟩
    ⟨⟨rfl, rfl, rfl, trivial⟩, ⟨rfl, trivial⟩, rfl, by rw [hX]; simp⟩ ?_
  clear hnat hi hi' g1
  rintro i ⟨g1, g2⟩
  try dsimp only at g1 g2 ⊢
  have hnat : (i : Int).toNat = i := Int.toNat_natCast i
  by_cases hi : i < j.notl.length
  · have hi' : (i : Int) < (j.notl.length : Int) := by omega
    have cJ := cI (j.notl.getD (i : Int).toNat [])
    by_cases hm : j.notl.getD i [] ∈ rows.getD 0 []
    · rw [decide_eq_true (by rw [hnat]; exact hm)] at cJ
      have g3 : ∀ k, k < i + 1 → j.notl.getD k [] ∈ rows.getD 0 [] := fun k hk => by
        by_cases q : k = i
        · rw [q]
          exact hm
        · exact g2 k (by omega)
      clear g2
      repeat' (first |refine zae (f := 35) rfl rfl Tryz.call35 rfl cJ ?_|with_reducible (first |refine zah ?_|refine zaa ?_|refine zag ?_|refine zad ?_|refine zai ?_|refine zaf ?_|refine zao ?_|refine zaC ?_)|refine zab rfl rfl True.intro ?_|refine zal rfl ?_|((first |refine zac rfl ?_ ?_)<;>intro<;>try (first |(exfalso;omega)))|((first |refine zab rfl rfl ?_ ?_);focus (first |omega|exact le_ rfl|((repeat' refine And.intro ?_ ?_)<;>omega)))|with_reducible refine ⟨by kernel_rfl, ?_⟩|fail)
      all_goals exact ⟨i + 1, ⟨by omega, g3⟩, by omega, ⟨rfl, rfl, rfl, trivial⟩, ⟨rfl, trivial⟩, rfl, by rw [hX]; simp⟩
    · rw [decide_eq_false (by rw [hnat]; exact hm)] at cJ
      rw [tK rfl (fun q => zhD hi hm q.2.2)]
      clear g2
      dsimp only
      repeat' (first |refine zae (f := 35) rfl rfl Tryz.call35 rfl cJ ?_|with_reducible (first |refine zah ?_|refine zaa ?_|refine zag ?_|refine zad ?_|refine zan ?_|refine zai ?_|refine zaf ?_|refine zam ?_|refine zaz ?_|refine zaC ?_)|refine zab rfl rfl True.intro ?_|refine zau rfl ?_|((first |refine zac rfl ?_ ?_)<;>intro<;>try (first |(exfalso;omega)))|((first |refine zab rfl rfl ?_ ?_);focus (first |omega|exact le_ rfl|((repeat' refine And.intro ?_ ?_)<;>omega)))|with_reducible refine ⟨by kernel_rfl, ?_⟩|refine zbN rfl (.tu2 (.nil 1 _) (.refl _))|fail)
      all_goals rfl
  have hi' : ¬ (i : Int) < (j.notl.length : Int) := by omega
  have hZ : hasAllT (rows.getD 0 []) j.notl := fun k hk => g2 k (by omega)
  clear g2 tK cI
  have tN := tN rfl ⟨hk, hO, hZ⟩
  have tO := tO rfl ⟨hk, hO, hZ⟩
  repeat' (first |with_reducible (first |refine zah ?_|refine zaa ?_|refine zag ?_|refine zad ?_|refine zat ?_|refine zaf ?_|refine zas ?_)|refine zab rfl rfl True.intro ?_|((first |refine zac rfl ?_ ?_)<;>intro<;>try (first |(exfalso;omega)))|((first |refine zab rfl rfl ?_ ?_);focus (first |exact le_ rfl|((repeat' refine And.intro ?_ ?_)<;>omega)))|refine zaB rfl ?_|fail)
  refine T.loop hL (fun i : Nat => [(6, .sl 1 rows.length (Csv.tabF rows)), (11, .i .i64 i)]) (fun _ => [])
    (fun i => i ≤ (rows.getD 0 []).length ∧ ∀ k, k < i → validL ((rows.getD 0 []).getD k []) = true ∧ (rows.getD 0 []).getD k [] ∉ (rows.getD 0 []).take k) (fun i => (rows.getD 0 []).length - i) 0 ⟨Nat.zero_le _, fun k h => absurd h (Nat.not_lt_zero _)⟩
    ⟨⟨rfl, rfl, trivial⟩, trivial, rfl, by rw [hX]; simp⟩ ?_
  clear hnat hi hi' g1
  rintro i ⟨g1, g2⟩
  try dsimp only at g1 g2 ⊢
  have hnat : (i : Int).toNat = i := Int.toNat_natCast i
  by_cases hi : i < (rows.getD 0 []).length
  rotate_left
  · have hi' : ¬ (i : Int) < ((rows.getD (Int.toNat 0) []).length : Int) := by
      show ¬ (i : Int) < ((rows.getD 0 []).length : Int)
      omega
    rw [tO (fun k hk => g2 k (by omega))]
    dsimp only
    repeat' (first |with_reducible (first |refine zah ?_|refine zaa ?_|refine zag ?_|refine zad ?_|refine zan ?_|refine zat ?_|refine zas ?_)|refine zab rfl rfl True.intro ?_|((first |refine zac rfl ?_ ?_)<;>intro<;>try (first |(exfalso;omega)))|((first |refine zab rfl rfl ?_ ?_);focus (first |omega|exact le_ rfl|((repeat' refine And.intro ?_ ?_)<;>omega)))|refine zaB rfl ?_|refine zaq rfl ?_|fail)
    all_goals first
      | rfl
      | trace_state
  have hi' : (i : Int) < ((rows.getD (Int.toNat 0) []).length : Int) := by
    show (i : Int) < ((rows.getD 0 []).length : Int)
    omega
  have cV := zcN ((rows.getD 0 []).getD (i : Int).toNat []) (by have := n2 (i : Int).toNat; omega)
  have cT := (zhf ((rows.getD 0 []).take i) ((rows.getD (Int.toNat 0) []).getD (i : Int).toNat []) (by rw [List.length_take]; omega)).weak2 (zlS (Nat.le_of_lt hi)) (.refl _)
  cases hv : validL ((rows.getD 0 []).getD i []) with
  | false =>
    rw [hnat, hv] at cV
    replace cV : Ctr Tryz.prog 36 [.s ((rows.getD (Int.toNat 0) []).getD (i : Int).toNat [])] (.b false) := by rw [hnat]; exact cV
    rw [tN (fun q => by have := (q i hi).1; rw [hv] at this; cases this)]
    dsimp only
    clear g2
    repeat' (first |refine zae (f := 36) rfl rfl Tryz.call36 rfl cV ?_|with_reducible (first |refine zah ?_|refine zaa ?_|refine zag ?_|refine zad ?_|refine zan ?_|refine zai ?_|refine zaf ?_|refine zam ?_|refine zaz ?_|refine zaC ?_)|refine zab rfl rfl True.intro ?_|refine zap rfl rfl rfl ?_|refine zau rfl ?_|((first |refine zac rfl ?_ ?_)<;>intro<;>try (first |(exfalso;omega)))|((first |refine zab rfl rfl ?_ ?_);focus (first |omega|exact le_ rfl|((repeat' refine And.intro ?_ ?_)<;>omega)))|with_reducible refine ⟨by kernel_rfl, ?_⟩|refine zbN rfl (.tu2 (.nil 1 _) (.refl _))|fail)
    all_goals rfl
  | true =>
    rw [hnat, hv] at cV
    replace cV : Ctr Tryz.prog 36 [.s ((rows.getD (Int.toNat 0) []).getD (i : Int).toNat [])] (.b true) := by rw [hnat]; exact cV
    by_cases hm : (rows.getD 0 []).getD i [] ∈ (rows.getD 0 []).take i
    · rw [decide_eq_true (by rw [hnat]; exact hm)] at cT
      replace cT : Ctr Tryz.prog 35 [.sl 1 ((i : Int).toNat - Int.toNat 0) (fun k => Csv.rowF (rows.getD (Int.toNat 0) []) (Int.toNat 0 + k)), .s ((rows.getD (Int.toNat 0) []).getD (i : Int).toNat [])] (.b true) := cT
      rw [tN (fun q => (q i hi).2 hm)]
      dsimp only
      clear g2
      repeat' (first |refine zae (f := 36) rfl rfl Tryz.call36 rfl cV ?_|refine zaw (f := 35) rfl rfl rfl rfl Tryz.call35 rfl cT ?_|with_reducible (first |refine zah ?_|refine zaa ?_|refine zag ?_|refine zad ?_|refine zan ?_|refine zai ?_|refine zaf ?_|refine zam ?_|refine zaz ?_|refine zaC ?_)|refine zab rfl rfl True.intro ?_|refine zaj rfl rfl rfl rfl True.intro ?_|refine zau rfl ?_|((first |refine zac rfl ?_ ?_|refine zaT rfl rfl ?_ ?_)<;>intro<;>try (first |(rename_i hz;exact tf_ hz)|(exfalso;omega)))|((first |refine zab rfl rfl ?_ ?_|refine zaj rfl rfl rfl rfl ?_ ?_);focus (first |omega|exact le_ rfl|((repeat' refine And.intro ?_ ?_)<;>omega)))|with_reducible refine ⟨by kernel_rfl, ?_⟩|refine zbN rfl (.tu2 (.nil 1 _) (.refl _))|fail)
      all_goals first
        | rfl
        | trace_state
    · rw [decide_eq_false (by rw [hnat]; exact hm)] at cT
      replace cT : Ctr Tryz.prog 35 [.sl 1 ((i : Int).toNat - Int.toNat 0) (fun k => Csv.rowF (rows.getD (Int.toNat 0) []) (Int.toNat 0 + k)), .s ((rows.getD (Int.toNat 0) []).getD (i : Int).toNat [])] (.b false) := cT
      have g3 : ∀ k, k < i + 1 → validL ((rows.getD 0 []).getD k []) = true ∧ (rows.getD 0 []).getD k [] ∉ (rows.getD 0 []).take k := fun k hk => by
        by_cases q : k = i
        · rw [q]
          exact ⟨hv, hm⟩
        · exact g2 k (by omega)
      clear g2
      repeat' (first |refine zae (f := 36) rfl rfl Tryz.call36 rfl cV ?_|refine zaw (f := 35) rfl rfl rfl rfl Tryz.call35 rfl cT ?_|with_reducible (first |refine zah ?_|refine zaa ?_|refine zag ?_|refine zad ?_|refine zai ?_|refine zaf ?_|refine zao ?_|refine zaC ?_)|refine zab rfl rfl True.intro ?_|refine zaj rfl rfl rfl rfl True.intro ?_|refine zal rfl ?_|((first |refine zac rfl ?_ ?_|refine zaT rfl rfl ?_ ?_)<;>intro<;>try (first |(rename_i hz;exact tf_ hz)|(exfalso;omega)))|((first |refine zab rfl rfl ?_ ?_|refine zaj rfl rfl rfl rfl ?_ ?_);focus (first |omega|exact le_ rfl|((repeat' refine And.intro ?_ ?_)<;>omega)))|with_reducible refine ⟨by kernel_rfl, ?_⟩|fail)
      all_goals first
        | exact ⟨i + 1, ⟨by omega, g3⟩, by omega, ⟨rfl, rfl, trivial⟩, trivial, rfl, by rw [hX]; simp⟩
        | trace_state

theorem znH {neg : Bool} {s : List UInt8} {e : Int} (h : RightP neg s e) :
    bitsV neg s e = (if neg = true then 9223372036854775808 else 0) + flB (numV s e) (denV e) + (if upB (numV s e) (denV e) (flB (numV s e) (denV e)) = true then 1 else 0) := by
  unfold bitsV roB
  have hs : neg = true → ¬ s = [] := fun hn hs => by
    subst hn
    subst hs
    have := (zca (s := []) rfl).1 h
    exact absurd this.1 (by decide)
  have e1 : (if neg = true ∧ ¬ s = [] then 9223372036854775808 else 0) = if neg = true then 9223372036854775808 else 0 := by
    by_cases hn : neg = true
    · rw [if_pos ⟨hn, hs hn⟩, if_pos hn]
    · rw [if_neg (fun h => hn h.1), if_neg hn]
  rw [e1]
  generalize (if neg = true then 9223372036854775808 else 0) = A
  split <;> omega
theorem znk (k : Nat) : 2 ^ (k + 1) / 2 = 2 ^ k := by rw [Nat.pow_succ]; omega
set_option maxHeartbeats 2000000 in
theorem zlw (neg : Bool) (s : List UInt8) (e : Int) (h : RightP neg s e) : Ctr Tryz.prog 87 [dcD neg s e] (.i .u64 (bitsV neg s e : Nat)) := by
  obtain ⟨b1, b2, b3, b4⟩ := h.bounds
  have c1 := zdU neg s e h
  obtain ⟨n1, n2, n3, n4⟩ := zfE (B := 65536) (by omega) s e
  obtain ⟨d1, d2, d3, d4⟩ := zeH (B := 65536) (by omega) e
  have la : (ratN 65536 s e).length ≤ 10000 := by omega
  have lb : (ratD 65536 e).length ≤ 10000 := by omega
  have hsum := znH h
  have hnear := zqC (N := numV s e) (zoe e)
  obtain ⟨f1, f2, f3, f4⟩ := zjR (numV s e) (denV e)
  have f5 : flB (numV s e) (denV e) + 1 < 9223372036854775808 := by
    have f6 := f1
    unfold xB at f6
    omega
  have cN : ∀ b : Nat, b < 18446744073709551616 → decide (9223372036854775808 ≤ b) = neg → b % 9223372036854775808 = flB (numV s e) (denV e) → Ctr Tryz.prog 140 [dcD neg s e, .i .u64 b] (.b (!upB (numV s e) (denV e) (flB (numV s e) (denV e)))) := fun b hb hn hm => by
    have := zji neg s e h b hb (by rw [hm]; exact f1) hn
    rwa [hm, hnear] at this
  clear f2 f3 n3 n4 d3 d4 hnear h
  rw [← n1, ← d1] at *
  generalize ratN 65536 s e = a at *
  generalize ratD 65536 e = b at *
  generalize bitsV neg s e = R at *
  clear n1 d1
  generalize hN : val 65536 a = N at *
  generalize hD : val 65536 b = D' at *
  generalize hU : upB N D' (flB N D') = u at *
  generalize hF : flB N D' = F at *
  have hF0 : floorG (pB N D') 63 0 = F := hF
  clear hF hU
  refine zax Tryz.func87 rfl Tryz.ntmps87 Tryz.results87 rfl rfl fun X hL hX => ?_
  repeat' (first |with_reducible (first |refine zah ?_|refine zaa ?_|refine zag ?_|refine zad ?_|refine zaf ?_)|refine zab rfl rfl True.intro ?_|((first |refine zab rfl rfl ?_ ?_|refine zav rfl rfl ?_ ?_);focus (first |exact le_ rfl|((repeat' refine And.intro ?_ ?_)<;>omega)|((repeat' refine And.intro ?_ ?_)<;>first |rfl)))|refine zae (f := 137) rfl rfl Tryz.call137 rfl c1 ?_|fail)
  refine T.loop hL (fun x : Nat × Nat => [(1, .pv 1 0), (3, slW .u64 a), (4, slW .u64 b), (5, .i .u64 (x.2 : Nat)), (6, .i .u64 ((2 ^ x.1 / 2 : Nat) : Int))]) (fun _ => [(1, .var [.b neg, .s s, .i .i64 e])]) (fun x => x.1 ≤ 63 ∧ x.2 + 2 ^ x.1 ≤ 9223372036854775808 ∧ floorG (pB N D') x.1 x.2 = F) (fun x => x.1) (63, 0)
    ⟨Nat.le_refl _, by decide, hF0⟩ ⟨⟨rfl, rfl, rfl, rfl, congrArg (D.i .u64) (by decide), trivial⟩, ⟨rfl, trivial⟩, rfl, by rw [hX]; intro k hk; cases hk⟩ ?_
  rintro ⟨k, f⟩ ⟨g1, g2, g3⟩
  dsimp only at g1 g2 g3 ⊢
  cases k with
  | zero =>
    have g3 : f = F := g3
    subst g3
    have hz : ((2 ^ 0 / 2 : Nat) : Int) = 0 := by decide
    rw [hz]
    have e0 : neg = false → IntKind.u64.wrap (0 + (f : Int)) = ((f : Nat) : Int) := fun _ => by
      rw [zar]
      omega
    have e1 : neg = true → IntKind.u64.wrap (9223372036854775808 + (f : Int)) = ((9223372036854775808 + f : Nat) : Int) := fun _ => by
      rw [zar]
      omega
    have p0 : neg = false → Ctr Tryz.prog 140 [dcD neg s e, .i .u64 (IntKind.u64.wrap (0 + (f : Int)))] (.b (!u)) := fun hn => by
      rw [e0 hn]
      exact cN f (by omega) (by rw [hn]; simp; omega) (by omega)
    have p1 : neg = true → Ctr Tryz.prog 140 [dcD neg s e, .i .u64 (IntKind.u64.wrap (9223372036854775808 + (f : Int)))] (.b (!u)) := fun hn => by
      rw [e1 hn]
      exact cN (9223372036854775808 + f) (by omega) (by rw [hn]; simp) (by omega)
    clear cN c1 hF0
    cases neg with
    | false =>
      rw [if_neg (by decide)] at hsum
      have e0 := e0 rfl
      have p0 := p0 rfl
      clear p1 e1
      cases u with
      | false =>
        rw [if_neg (by decide)] at hsum
        repeat' (first |with_reducible (first |refine zah ?_|refine zaa ?_|refine zag ?_|refine zad ?_|refine zan ?_|refine zai ?_|refine zat ?_|refine zas ?_|refine zam ?_)|refine zab rfl rfl True.intro ?_|refine zau rfl ?_|refine zal rfl ?_|((first |refine zab rfl rfl ?_ ?_);focus (first |exact le_ rfl|((repeat' refine And.intro ?_ ?_)<;>omega)))|refine zaB rfl ?_|refine zaq rfl ?_|refine zae (f := 140) rfl rfl Tryz.call140 rfl p0 ?_|fail)
        all_goals (rw [e0, hsum]; exact congrArg (D.i .u64) (by omega))
      | true =>
        rw [if_pos rfl] at hsum
        repeat' (first |with_reducible (first |refine zah ?_|refine zaa ?_|refine zag ?_|refine zad ?_|refine zan ?_|refine zai ?_|refine zat ?_|refine zas ?_)|refine zab rfl rfl True.intro ?_|refine zal rfl ?_|((first |refine zab rfl rfl ?_ ?_);focus (first |exact le_ rfl|((repeat' refine And.intro ?_ ?_)<;>omega)))|refine zaB rfl ?_|refine zaq rfl ?_|refine zae (f := 140) rfl rfl Tryz.call140 rfl p0 ?_|fail)
        all_goals (rw [e0, hsum, zar]; exact congrArg (D.i .u64) (by omega))
    | true =>
      rw [if_pos rfl] at hsum
      have e1 := e1 rfl
      have p1 := p1 rfl
      clear p0 e0
      cases u with
      | false =>
        rw [if_neg (by decide)] at hsum
        repeat' (first |with_reducible (first |refine zah ?_|refine zaa ?_|refine zag ?_|refine zad ?_|refine zan ?_|refine zat ?_|refine zas ?_|refine zam ?_)|refine zab rfl rfl True.intro ?_|refine zau rfl ?_|refine zal rfl ?_|((first |refine zab rfl rfl ?_ ?_);focus (first |exact le_ rfl|((repeat' refine And.intro ?_ ?_)<;>omega)))|refine zaB rfl ?_|refine zaq rfl ?_|refine zae (f := 140) rfl rfl Tryz.call140 rfl p1 ?_|fail)
        all_goals (rw [e1, hsum]; exact congrArg (D.i .u64) (by omega))
      | true =>
        rw [if_pos rfl] at hsum
        repeat' (first |with_reducible (first |refine zah ?_|refine zaa ?_|refine zag ?_|refine zad ?_|refine zan ?_|refine zai ?_|refine zat ?_|refine zas ?_)|refine zab rfl rfl True.intro ?_|refine zau rfl ?_|refine zal rfl ?_|((first |refine zab rfl rfl ?_ ?_);focus (first |exact le_ rfl|((repeat' refine And.intro ?_ ?_)<;>omega)))|refine zaB rfl ?_|refine zaq rfl ?_|refine zae (f := 140) rfl rfl Tryz.call140 rfl p1 ?_|fail)
        all_goals (rw [e1, hsum, zar]; exact congrArg (D.i .u64) (by omega))
  | succ k =>
    have hp0 : 0 < 2 ^ k := Nat.two_pow_pos k
    have hp1 : (2 : Nat) ^ (k + 1) = 2 * 2 ^ k := by rw [Nat.pow_succ]; omega
    rw [znk]
    have step : floorG (pB N D') k (if pB N D' (f + 2 ^ k) = true then f + 2 ^ k else f) = F := g3
    rw [hp1] at g2
    have hw : IntKind.u64.wrap ((f : Int) + ((2 ^ k : Nat) : Int)) = ((f + 2 ^ k : Nat) : Int) := by
      rw [zar]
      omega
    have cP := zdW (f + 2 ^ k) (by omega)
    have hd : (((2 ^ k : Nat) : Int)) / 2 = ((2 ^ k / 2 : Nat) : Int) := by omega
    clear cN hF0 hsum f1 f4 hp1 g3
    have hc63 : f + 2 ^ k < 9223372036854775808 := by omega
    have cA : xB (f + 2 ^ k) < 2047 → Ctr Tryz.prog 138 [slW .u64 a, slW .u64 b, .i .u64 (mB (f + 2 ^ k) : Nat), .i .i64 (eB (f + 2 ^ k))] (.i .i64 (cmpQ N D' (mB (f + 2 ^ k)) (eB (f + 2 ^ k)))) := fun hx => by
      have hm := zld (f + 2 ^ k)
      have he1 := zpN (f + 2 ^ k)
      have he2 := zkX (f + 2 ^ k) (by omega)
      have := zbu a b (mB (f + 2 ^ k)) (eB (f + 2 ^ k)) n2 d2 (by omega) la lb (by omega) (by omega)
      rwa [hN, hD] at this
    have P1 : xB (f + 2 ^ k) < 2047 → pB N D' (f + 2 ^ k) = decide (0 ≤ cmpQ N D' (mB (f + 2 ^ k)) (eB (f + 2 ^ k))) := fun hx => by
      unfold pB
      rw [decide_eq_true hx, Bool.true_and]
    have P0 : ¬ xB (f + 2 ^ k) < 2047 → pB N D' (f + 2 ^ k) = false := fun hx => by
      unfold pB
      rw [decide_eq_false hx, Bool.false_and]
    have S1 := zdf hc63
    have S0 := zeK hc63
    by_cases hx : xB (f + 2 ^ k) < 2047
    · rw [S1 hx] at cP
      have cA := cA hx
      have P1 := P1 hx
      clear P0 S0 S1
      rw [P1] at step
      clear P1
      generalize mB (f + 2 ^ k) = m at *
      generalize eB (f + 2 ^ k) = x at *
      generalize cmpQ N D' m x = q at *
      have cP : Ctr Tryz.prog 139 [.i .u64 (IntKind.u64.wrap ((f : Int) + ((2 ^ k : Nat) : Int)))] (.tu [.b false, .i .u64 m, .i .i64 x, .b true]) := by rw [hw]; exact cP
      repeat' (first |with_reducible (first |refine zah ?_|refine zaa ?_|refine zag ?_|refine zad ?_|refine zai ?_|refine zaf ?_|refine zao ?_)|refine zab rfl rfl True.intro ?_|refine zaj rfl rfl rfl rfl True.intro ?_|((first |refine zac rfl ?_ ?_)<;>intro<;>try (first |(exfalso;omega)))|((first |refine zab rfl rfl ?_ ?_);focus (first |((repeat first |rw [zar]);(repeat' refine And.intro ?_ ?_)<;>omega)))|refine zae (f := 139) rfl rfl Tryz.call139 rfl cP ?_|refine zaw (f := 138) rfl rfl rfl rfl Tryz.call138 rfl cA ?_|fail)
      · rename_i h1
        rw [if_pos (decide_eq_true h1)] at step
        exact ⟨(k, f + 2 ^ k), ⟨by dsimp only; omega, by dsimp only; omega, step⟩, by dsimp only; omega, ⟨rfl, rfl, rfl, congrArg (D.i .u64) hw, congrArg (D.i .u64) hd, trivial⟩, ⟨rfl, trivial⟩, rfl, by rw [hX]; intro k hk; cases hk⟩
      · rename_i h1
        rw [if_neg (by simpa using h1)] at step
        exact ⟨(k, f), ⟨by dsimp only; omega, by dsimp only; omega, step⟩, by dsimp only; omega, ⟨rfl, rfl, rfl, rfl, congrArg (D.i .u64) hd, trivial⟩, ⟨rfl, trivial⟩, rfl, by rw [hX]; intro k hk; cases hk⟩
    · rw [S0 hx] at cP
      have P0 := P0 hx
      clear P1 S0 S1 cA
      rw [P0, if_neg (by decide)] at step
      clear P0
      have cP : Ctr Tryz.prog 139 [.i .u64 (IntKind.u64.wrap ((f : Int) + ((2 ^ k : Nat) : Int)))] (.tu [.b false, .i .u64 0, .i .i64 0, .b false]) := by rw [hw]; exact cP
      repeat' (first |with_reducible (first |refine zah ?_|refine zaa ?_|refine zag ?_|refine zad ?_|refine zai ?_|refine zaf ?_|refine zao ?_)|refine zab rfl rfl True.intro ?_|refine zap rfl rfl rfl ?_|refine zal rfl ?_|((first |refine zac rfl ?_ ?_)<;>intro<;>try (first |(exfalso;omega)))|((first |refine zab rfl rfl ?_ ?_);focus (first |((repeat first |rw [zar]);(repeat' refine And.intro ?_ ?_)<;>omega)))|refine zae (f := 139) rfl rfl Tryz.call139 rfl cP ?_|fail)
      exact ⟨(k, f), ⟨by dsimp only; omega, by dsimp only; omega, step⟩, by dsimp only; omega, ⟨rfl, rfl, rfl, rfl, congrArg (D.i .u64) hd, trivial⟩, ⟨rfl, trivial⟩, rfl, by rw [hX]; intro k hk; cases hk⟩

theorem zmx {s : List UInt8} {i : Nat} (h : i < s.length) : dotE (s.drop i) = (decide (at' s i = 46) || decide (at' s i = 101) || decide (at' s i = 69) || dotE (s.drop (i + 1))) := by
  have e : s.drop i = s[i] :: s.drop (i + 1) := (List.drop_eq_getElem_cons h)
  have ea : at' s i = (s[i].toNat : Int) := by
    unfold at'
    simp [List.getD_eq_getElem?_getD, List.getElem?_eq_getElem h]
  have key : ∀ (c : UInt8) (n : Nat), n < 256 → (c == UInt8.ofNat n) = decide ((c.toNat : Int) = n) := fun c n hn => by
    rw [Bool.eq_iff_iff, beq_iff_eq, decide_eq_true_iff]
    exact (zkO hn).symm
  rw [e, ea]
  unfold dotE
  rw [List.any_cons]
  have k1 : (s[i] == 46) = decide ((s[i].toNat : Int) = 46) := key s[i] 46 (by omega)
  have k2 : (s[i] == 101) = decide ((s[i].toNat : Int) = 101) := key s[i] 101 (by omega)
  have k3 : (s[i] == 69) = decide ((s[i].toNat : Int) = 69) := key s[i] 69 (by omega)
  rw [k1, k2, k3]
theorem zlh (s : List UInt8) (hs : s.length ≤ 1048576) : Ctr Tryz.prog 85 [.s s] (.b (!dotE s)) := by
  generalize hR : dotE s = R
  refine zax Tryz.func85 rfl Tryz.ntmps85 Tryz.results85 rfl rfl fun X hL hX => ?_
  repeat' (first |with_reducible (first |refine zah ?_|refine zaa ?_|refine zag ?_|refine zad ?_|refine zaf ?_)|refine zab rfl rfl True.intro ?_|fail)
  refine T.loop hL (fun i : Nat => [(0, .s s), (3, .i .i64 i)]) (fun _ => []) (fun i => i ≤ s.length ∧ dotE (s.drop i) = R) (fun i => s.length - i) 0
    ⟨Nat.zero_le _, hR⟩ ⟨⟨rfl, rfl, trivial⟩, trivial, rfl, by rw [hX]; intro k hk; cases hk⟩ ?_
  rintro i ⟨g1, g2⟩
  by_cases hi : i < s.length
  · have hst := zmx hi
    rw [g2] at hst
    by_cases hd : at' s i = 46 ∨ at' s i = 101 ∨ at' s i = 69
    · have e : R = true := by
        rw [hst]
        rcases hd with h | h | h <;> simp [h]
      clear hst hR g2
      subst e
      repeat' (first |with_reducible (first |refine zah ?_|refine zaa ?_|refine zag ?_|refine zad ?_|refine zan ?_|refine zai ?_|refine zaf ?_|refine zam ?_|refine zaz ?_)|refine zab rfl rfl True.intro ?_|refine zap rfl rfl rfl ?_|refine zaj rfl rfl rfl rfl True.intro ?_|refine zau rfl ?_|((first |refine zac rfl ?_ ?_|refine zak rfl rfl ?_ ?_)<;>intro<;>try (first |(exfalso;omega)))|((first |refine zab rfl rfl ?_ ?_|refine zaj rfl rfl rfl rfl ?_ ?_);focus (first |omega|((repeat' refine And.intro ?_ ?_)<;>omega)))|refine zaq rfl ?_|fail)
      all_goals first | rfl | (exfalso; omega)
    · have e : dotE (s.drop (i + 1)) = R := by
        rw [hst]
        have h1 : ¬ at' s i = 46 := fun h => hd (.inl h)
        have h2 : ¬ at' s i = 101 := fun h => hd (.inr (.inl h))
        have h3 : ¬ at' s i = 69 := fun h => hd (.inr (.inr h))
        simp [h1, h2, h3]
      have h1 : ¬ at' s i = 46 := fun h => hd (.inl h)
      have h2 : ¬ at' s i = 101 := fun h => hd (.inr (.inl h))
      have h3 : ¬ at' s i = 69 := fun h => hd (.inr (.inr h))
      clear hst hR g2 hd
      repeat' (first |with_reducible (first |refine zah ?_|refine zaa ?_|refine zag ?_|refine zad ?_|refine zai ?_|refine zaf ?_|refine zao ?_)|refine zab rfl rfl True.intro ?_|refine zaj rfl rfl rfl rfl True.intro ?_|((first |refine zac rfl ?_ ?_|refine zak rfl rfl ?_ ?_)<;>intro<;>try (first |(exfalso;omega)))|((first |refine zab rfl rfl ?_ ?_|refine zaj rfl rfl rfl rfl ?_ ?_);focus (first |omega|((repeat' refine And.intro ?_ ?_)<;>omega)))|fail)
      all_goals exact ⟨i + 1, ⟨by omega, e⟩, by omega, ⟨rfl, rfl, trivial⟩, trivial, rfl, by rw [hX]; intro k hk; cases hk⟩
  · have e : R = false := by
      rw [← g2, List.drop_eq_nil_of_le (by omega)]
      rfl
    clear hR g2
    subst e
    repeat' (first |with_reducible (first |refine zah ?_|refine zaa ?_|refine zag ?_|refine zad ?_|refine zan ?_|refine zat ?_|refine zas ?_)|refine zab rfl rfl True.intro ?_|((first |refine zac rfl ?_ ?_)<;>intro<;>try (first |(exfalso;omega)))|refine zaB rfl ?_|refine zaq rfl ?_|fail)
    all_goals rfl
theorem zfm (s : List UInt8) (hs : s.length ≤ 700) : Ctr Tryz.prog 83 [.s s] (.tu [dcV (parseG powP s).1, .i .i64 (parseG powP s).2.1, .i .i64 (parseG powP s).2.2]) := by
  rw [zlz s (by omega)]
  exact rparse_ctr s (by omega)
theorem zfO (s : List UInt8) (hs : s.length ≤ 700) : Ctr Tryz.prog 82 [.s s] (.b (isNum s)) := by
  have c1 := zfm s hs
  have hi := zdy (s := s)
  generalize isNum s = B at *
  generalize parseG powP s = R at *
  obtain ⟨d, n, e⟩ := R
  dsimp only at hi c1
  have hT : e = 0 → (n : Int) = s.length → D.b true = .b B := fun h h2 => by rw [hi.2 ⟨h, h2⟩]
  have hF : (¬ e = 0 ∨ ¬ (n : Int) = s.length) → D.b false = .b B := fun h => by
    have : ¬ B = true := fun h2 => by
      have := hi.1 h2
      omega
    rw [Bool.eq_false_iff.2 this]
  refine zax Tryz.func82 rfl Tryz.ntmps82 Tryz.results82 rfl rfl fun X hL hX => ?_
  clear hi
  repeat' (first |with_reducible (first |refine zah ?_|refine zaa ?_|refine zag ?_|refine zad ?_|refine zan ?_)|refine zab rfl rfl True.intro ?_|refine zap rfl rfl rfl ?_|refine zaj rfl rfl rfl rfl True.intro ?_|((first |refine zak rfl rfl ?_ ?_)<;>intro)|((first |refine zav rfl rfl ?_ ?_|refine zaH rfl ?_ ?_);focus (first |((repeat' refine And.intro ?_ ?_)<;>omega)|((repeat' refine And.intro ?_ ?_)<;>first |rfl|exact Nat.le_refl _)))|refine zaq rfl ?_|refine zae (f := 83) rfl rfl Tryz.call83 rfl c1 ?_|fail)
  all_goals
    first
      | exact hT (by omega) (by omega)
      | exact hF (by omega)
      | (by_cases hz : (n : Int) = s.length
         · simp only [hz, beq_self_eq_true]
           exact hT (by omega) hz
         · have hq : ((n : Int) == (s.length : Int)) = false := by simpa using hz
           simp only [hq]
           exact hF (.inr hz))
theorem zku (s : List UInt8) (hs : s.length ≤ 700) (texts : Bool) (h : s.length = 0 ∨ validL s = false) : Ctr Tryz.prog 44 [.s s, .b texts] (.tu [vlD 0 [] 0, .b false]) := by
  have c1 := zcN s (by omega)
  by_cases h0 : s.length = 0
  · obtain rfl := zdV h0
    clear h
    refine zax Tryz.func44 rfl Tryz.ntmps44 Tryz.results44 rfl rfl fun X hL hX => ?_
    repeat' (first |with_reducible (first |refine zah ?_|refine zaa ?_|refine zag ?_|refine zad ?_|refine zan ?_|refine zam ?_)|refine zab rfl rfl True.intro ?_|refine zap rfl rfl rfl ?_|refine zau rfl ?_|((first |refine zav rfl rfl ?_ ?_|refine zaH rfl ?_ ?_);focus (first |((repeat' refine And.intro ?_ ?_)<;>omega)|((repeat' refine And.intro ?_ ?_)<;>first |rfl|exact Nat.le_refl _)))|refine zaq rfl ?_|fail)
    all_goals rfl
  · have hv : validL s = false := h.resolve_left h0
    rw [hv] at c1
    clear h hv
    refine zax Tryz.func44 rfl Tryz.ntmps44 Tryz.results44 rfl rfl fun X hL hX => ?_
    repeat' (first |with_reducible (first |refine zah ?_|refine zaa ?_|refine zag ?_|refine zad ?_|refine zan ?_|refine zam ?_)|refine zab rfl rfl True.intro ?_|refine zaj rfl rfl rfl rfl True.intro ?_|refine zau rfl ?_|((first |refine zak rfl rfl ?_ ?_)<;>intro<;>try (first |(exfalso;omega)))|((first |refine zav rfl rfl ?_ ?_|refine zaH rfl ?_ ?_);focus (first |((repeat' refine And.intro ?_ ?_)<;>omega)|((repeat' refine And.intro ?_ ?_)<;>first |rfl|exact Nat.le_refl _)))|refine zaq rfl ?_|refine zaw (f := 36) rfl rfl rfl rfl Tryz.call36 rfl c1 ?_|fail)
    all_goals rfl
theorem zjb (s : List UInt8) (hs : s.length ≤ 700) (texts : Bool) (h0 : ¬ s.length = 0) (hv : validL s = true) (h : texts = true ∨ isNum s = false) : Ctr Tryz.prog 44 [.s s, .b texts] (.tu [vlD 1 s 0, .b true]) := by
  have c1 := zcN s (by omega)
  rw [hv] at c1
  have c2 := zfO s hs
  have hne : ¬ s = ({ data := #[] } : ByteArray).data.toList := fun h2 => h0 (by rw [h2]; rfl)
  have h9 : 0 < s.length := by omega
  clear hv h0
  cases texts with
  | true =>
    clear h
    refine zax Tryz.func44 rfl Tryz.ntmps44 Tryz.results44 rfl rfl fun X hL hX => ?_
    repeat' (first |with_reducible (first |refine zah ?_|refine zaa ?_|refine zag ?_|refine zad ?_|refine zan ?_|refine zai ?_|refine zam ?_)|refine zab rfl rfl True.intro ?_|refine zap rfl rfl rfl ?_|refine zaj rfl rfl rfl rfl True.intro ?_|refine zau rfl ?_|refine zal rfl ?_|((first |refine zak rfl rfl ?_ ?_)<;>intro<;>try (first |(exfalso;omega)))|((first |refine zav rfl rfl ?_ ?_|refine zaH rfl ?_ ?_);focus (first |((repeat' refine And.intro ?_ ?_)<;>omega)|((repeat' refine And.intro ?_ ?_)<;>first |rfl|exact Nat.le_refl _)))|refine zaq rfl ?_|refine zaw (f := 36) rfl rfl rfl rfl Tryz.call36 rfl c1 ?_|fail)
    all_goals first | rfl | (exfalso; omega) | exact absurd ‹_› hne
  | false =>
    have hq : isNum s = false := h.resolve_left (by decide)
    rw [hq] at c2
    clear h hq
    refine zax Tryz.func44 rfl Tryz.ntmps44 Tryz.results44 rfl rfl fun X hL hX => ?_
    repeat' (first |with_reducible (first |refine zah ?_|refine zaa ?_|refine zag ?_|refine zad ?_|refine zan ?_|refine zai ?_|refine zam ?_)|refine zab rfl rfl True.intro ?_|refine zaj rfl rfl rfl rfl True.intro ?_|refine zau rfl ?_|refine zal rfl ?_|((first |refine zak rfl rfl ?_ ?_)<;>intro<;>try (first |(exfalso;omega)))|((first |refine zav rfl rfl ?_ ?_|refine zaH rfl ?_ ?_);focus (first |((repeat' refine And.intro ?_ ?_)<;>omega)|((repeat' refine And.intro ?_ ?_)<;>first |rfl|exact Nat.le_refl _)))|refine zaq rfl ?_|refine zaw (f := 36) rfl rfl rfl rfl Tryz.call36 rfl c1 ?_|refine zaw (f := 82) rfl rfl rfl rfl Tryz.call82 rfl c2 ?_|fail)
    all_goals first | rfl | (exfalso; omega) | exact absurd ‹_› hne
theorem zlF (s : List UInt8) (hs : s.length ≤ 700) (h0 : ¬ s.length = 0) (hv : validL s = true) (h : isNum s = true) (R : (Int × List UInt8 × Int) × Bool) (hR : typedF s false = R) : Ctr Tryz.prog 44 [.s s, .b false] (.tu [vlD R.1.1 R.1.2.1 R.1.2.2, .b R.2]) := by
  have c1 := zcN s (by omega)
  have c2 := zfO s hs
  have c3 := zfm s hs
  obtain ⟨p1, p2⟩ := zdy.1 h
  have hasc := zib p1 (by omega)
  have c4 := zlh s (by omega)
  have hr := zeO p1
  have hb := hr.bounds
  have c5 := zov (parseG powP s).1.1 (parseG powP s).1.2.1 (parseG powP s).1.2.2 (by omega)
  unfold typedF at hR
  rw [if_neg (fun h2 => h2.elim h0 (by rw [hv]; simp)), if_neg (fun h2 => h2.elim (by simp) (by rw [h]; simp))] at hR
  rw [hv] at c1
  rw [h] at c2
  have hne : ¬ s = ({ data := #[] } : ByteArray).data.toList := fun h2 => h0 (by rw [h2]; rfl)
  have h9 : 0 < s.length := by omega
  clear hv h0 h hasc p1 p2
  generalize parseG powP s = G at *
  obtain ⟨⟨neg, d, e⟩, n, er⟩ := G
  dsimp only at *
  generalize hN : intF neg d e = N at *
  obtain ⟨k, ok⟩ := N
  dsimp only at *
  by_cases hi : ok = true ∧ dotE s = false
  · rw [if_pos hi] at hR
    obtain ⟨rfl, hd⟩ := hi
    rw [hd] at c4
    subst hR
    clear hN hd hr
    refine zax Tryz.func44 rfl Tryz.ntmps44 Tryz.results44 rfl rfl fun X hL hX => ?_
    repeat' (first |with_reducible (first |refine zah ?_|refine zaa ?_|refine zag ?_|refine zad ?_|refine zan ?_|refine zai ?_|refine zam ?_)|refine zab rfl rfl True.intro ?_|refine zaj rfl rfl rfl rfl True.intro ?_|refine zau rfl ?_|refine zal rfl ?_|((first |refine zak rfl rfl ?_ ?_)<;>intro<;>try (first |(exfalso;omega)))|((first |refine zab rfl rfl ?_ ?_|refine zav rfl rfl ?_ ?_|refine zaH rfl ?_ ?_);focus (first |exact le_ rfl|((repeat first |rw [zar]);(repeat' refine And.intro ?_ ?_)<;>omega)|((repeat' refine And.intro ?_ ?_)<;>first |rfl|exact Nat.le_refl _)))|refine zaq rfl ?_|refine zaw (f := 36) rfl rfl rfl rfl Tryz.call36 rfl c1 ?_|refine zaw (f := 82) rfl rfl rfl rfl Tryz.call82 rfl c2 ?_|refine zae (f := 83) rfl rfl Tryz.call83 rfl c3 ?_|refine zae (f := 84) rfl rfl Tryz.call84 rfl c5 ?_|refine zaw (f := 85) rfl rfl rfl rfl Tryz.call85 rfl c4 ?_|fail)
    all_goals first | rfl | (exfalso; omega) | exact absurd ‹_› hne
  · rw [if_neg hi] at hR
    have hi2 : ok = true → dotE s = true := fun h => by
      cases hd : dotE s with
      | true => rfl
      | false => exact absurd ⟨h, hd⟩ hi
    clear hi hN
    by_cases ho : overB (numV d e) (denV e)
    · rw [if_pos ho] at hR
      have c6 := zeU neg d e hr 8 (.inl ⟨ho, rfl⟩)
      subst hR
      clear ho hr
      cases ok with
      | true =>
        rw [hi2 rfl] at c4
        clear hi2
        refine zax Tryz.func44 rfl Tryz.ntmps44 Tryz.results44 rfl rfl fun X hL hX => ?_
        repeat' (first |with_reducible (first |refine zah ?_|refine zaa ?_|refine zag ?_|refine zad ?_|refine zan ?_|refine zai ?_|refine zam ?_)|refine zab rfl rfl True.intro ?_|refine zaj rfl rfl rfl rfl True.intro ?_|refine zau rfl ?_|refine zal rfl ?_|((first |refine zak rfl rfl ?_ ?_)<;>intro<;>try (first |(exfalso;omega)))|((first |refine zab rfl rfl ?_ ?_|refine zav rfl rfl ?_ ?_|refine zaH rfl ?_ ?_);focus (first |exact le_ rfl|((repeat' refine And.intro ?_ ?_)<;>omega)|((repeat' refine And.intro ?_ ?_)<;>first |rfl|exact Nat.le_refl _)))|refine zaq rfl ?_|refine zaw (f := 36) rfl rfl rfl rfl Tryz.call36 rfl c1 ?_|refine zaw (f := 82) rfl rfl rfl rfl Tryz.call82 rfl c2 ?_|refine zae (f := 83) rfl rfl Tryz.call83 rfl c3 ?_|refine zae (f := 84) rfl rfl Tryz.call84 rfl c5 ?_|refine zaw (f := 85) rfl rfl rfl rfl Tryz.call85 rfl c4 ?_|refine zae (f := 86) rfl rfl Tryz.call86 rfl c6 ?_|fail)
        all_goals first | rfl | (exfalso; omega) | exact absurd ‹_› hne
      | false =>
        clear hi2
        refine zax Tryz.func44 rfl Tryz.ntmps44 Tryz.results44 rfl rfl fun X hL hX => ?_
        repeat' (first |with_reducible (first |refine zah ?_|refine zaa ?_|refine zag ?_|refine zad ?_|refine zan ?_|refine zai ?_|refine zam ?_)|refine zab rfl rfl True.intro ?_|refine zap rfl rfl rfl ?_|refine zaj rfl rfl rfl rfl True.intro ?_|refine zau rfl ?_|refine zal rfl ?_|((first |refine zak rfl rfl ?_ ?_)<;>intro<;>try (first |(exfalso;omega)))|((first |refine zab rfl rfl ?_ ?_|refine zav rfl rfl ?_ ?_|refine zaH rfl ?_ ?_);focus (first |exact le_ rfl|((repeat' refine And.intro ?_ ?_)<;>omega)|((repeat' refine And.intro ?_ ?_)<;>first |rfl|exact Nat.le_refl _)))|refine zaq rfl ?_|refine zaw (f := 36) rfl rfl rfl rfl Tryz.call36 rfl c1 ?_|refine zaw (f := 82) rfl rfl rfl rfl Tryz.call82 rfl c2 ?_|refine zae (f := 83) rfl rfl Tryz.call83 rfl c3 ?_|refine zae (f := 84) rfl rfl Tryz.call84 rfl c5 ?_|refine zae (f := 86) rfl rfl Tryz.call86 rfl c6 ?_|fail)
        all_goals first | rfl | (exfalso; omega) | exact absurd ‹_› hne
    · rw [if_neg ho] at hR
      have c6 := zeU neg d e hr 0 (.inr ⟨ho, rfl⟩)
      have c7 := zlw neg d e hr
      subst hR
      clear ho hr
      generalize bitsV neg d e = bb at *
      cases ok with
      | true =>
        rw [hi2 rfl] at c4
        clear hi2
        refine zax Tryz.func44 rfl Tryz.ntmps44 Tryz.results44 rfl rfl fun X hL hX => ?_
        repeat' (first |with_reducible (first |refine zah ?_|refine zaa ?_|refine zag ?_|refine zad ?_|refine zan ?_|refine zai ?_)|refine zab rfl rfl True.intro ?_|refine zaj rfl rfl rfl rfl True.intro ?_|refine zal rfl ?_|((first |refine zak rfl rfl ?_ ?_)<;>intro<;>try (first |(exfalso;omega)))|((first |refine zab rfl rfl ?_ ?_|refine zav rfl rfl ?_ ?_|refine zaH rfl ?_ ?_);focus (first |exact le_ rfl|((repeat' refine And.intro ?_ ?_)<;>omega)|((repeat' refine And.intro ?_ ?_)<;>first |rfl|exact Nat.le_refl _)))|refine zaq rfl ?_|refine zaw (f := 36) rfl rfl rfl rfl Tryz.call36 rfl c1 ?_|refine zaw (f := 82) rfl rfl rfl rfl Tryz.call82 rfl c2 ?_|refine zae (f := 83) rfl rfl Tryz.call83 rfl c3 ?_|refine zae (f := 84) rfl rfl Tryz.call84 rfl c5 ?_|refine zaw (f := 85) rfl rfl rfl rfl Tryz.call85 rfl c4 ?_|refine zae (f := 86) rfl rfl Tryz.call86 rfl c6 ?_|refine zae (f := 87) rfl rfl Tryz.call87 rfl c7 ?_|fail)
        all_goals first | rfl | (exfalso; omega) | exact absurd ‹_› hne
      | false =>
        clear hi2
        refine zax Tryz.func44 rfl Tryz.ntmps44 Tryz.results44 rfl rfl fun X hL hX => ?_
        repeat' (first |with_reducible (first |refine zah ?_|refine zaa ?_|refine zag ?_|refine zad ?_|refine zan ?_|refine zai ?_)|refine zab rfl rfl True.intro ?_|refine zap rfl rfl rfl ?_|refine zaj rfl rfl rfl rfl True.intro ?_|refine zal rfl ?_|((first |refine zak rfl rfl ?_ ?_)<;>intro<;>try (first |(exfalso;omega)))|((first |refine zab rfl rfl ?_ ?_|refine zav rfl rfl ?_ ?_|refine zaH rfl ?_ ?_);focus (first |exact le_ rfl|((repeat' refine And.intro ?_ ?_)<;>omega)|((repeat' refine And.intro ?_ ?_)<;>first |rfl|exact Nat.le_refl _)))|refine zaq rfl ?_|refine zaw (f := 36) rfl rfl rfl rfl Tryz.call36 rfl c1 ?_|refine zaw (f := 82) rfl rfl rfl rfl Tryz.call82 rfl c2 ?_|refine zae (f := 83) rfl rfl Tryz.call83 rfl c3 ?_|refine zae (f := 84) rfl rfl Tryz.call84 rfl c5 ?_|refine zae (f := 86) rfl rfl Tryz.call86 rfl c6 ?_|refine zae (f := 87) rfl rfl Tryz.call87 rfl c7 ?_|fail)
        all_goals first | rfl | (exfalso; omega) | exact absurd ‹_› hne
theorem zfQ (s : List UInt8) (hs : s.length ≤ 700) (texts : Bool) : Ctr Tryz.prog 44 [.s s, .b texts] (.tu [vlD (typedF s texts).1.1 (typedF s texts).1.2.1 (typedF s texts).1.2.2, .b (typedF s texts).2]) := by
  by_cases h1 : s.length = 0 ∨ validL s = false
  · have e : typedF s texts = ((0, [], 0), false) := if_pos h1
    rw [e]
    exact zku s hs texts h1
  · have h0 : ¬ s.length = 0 := fun h => h1 (.inl h)
    have hv : validL s = true := by
      cases hv : validL s with
      | true => rfl
      | false => exact absurd (.inr hv) h1
    by_cases h2 : texts = true ∨ isNum s = false
    · have e : typedF s texts = ((1, s, 0), true) := by
        unfold typedF
        rw [if_neg h1, if_pos h2]
      rw [e]
      exact zjb s hs texts h0 hv h2
    · obtain rfl : texts = false := Bool.eq_false_iff.2 fun h => h2 (.inl h)
      have hn : isNum s = true := by
        cases hn : isNum s with
        | true => rfl
        | false => exact absurd (.inr hn) h2
      exact zlF s hs h0 hv hn _ rfl
end Go.Proofs.YtkkaamhocpmhkaaGreatDoor.Flow
