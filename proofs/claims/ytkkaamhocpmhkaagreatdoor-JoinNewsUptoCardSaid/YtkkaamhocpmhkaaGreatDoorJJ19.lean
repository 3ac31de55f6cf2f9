/- The texts H8, Cs6, Cs7, Cs8, H9, FlowZ, FlowPa, FlowPb, FlowPc, one behind the other. -/
import Derived.Test.YtkkaamhocpmhkaaGreatDoorJJ9
import Derived.Test.YtkkaamhocpmhkaaGreatDoorJJ10
import Derived.Test.YtkkaamhocpmhkaaGreatDoorJJ17
import Derived.Test.YtkkaamhocpmhkaaGreatDoorJJ18
import Derived.LaidEqlPtr
namespace Go.Proofs.YtkkaamhocpmhkaaGreatDoor.Flow
open Go
theorem zdB : Tryz.prog.underlying 105 = some (.map 9 4) := by kernel_rfl
theorem okM1 {fr : Fr} {ks : List Tx} (h : okAll [6] fr [] = true) : okAll [6] fr [(6, .mp (mapB ks))] = true := by
  unfold okAll at h ⊢
  rw [List.all_cons, okMB]
  exact h
set_option maxHeartbeats 4000000 in
theorem zgk (l : List Tx) (x : Tx) (hl : l.length ≤ 1099511627776) : Ctr Tryz.prog 33 [.sl 1 l.length (Csv.rowF l), .s x] (.b (decide (x ∈ l))) := by
  have c := Csv.index_ctr l x hl
  refine zax Tryz.func33 rfl Tryz.ntmps33 Tryz.results33 rfl rfl fun X hL hX => ?_
  repeat' (first |refine zae (f := 63) rfl rfl Tryz.call63 rfl c ?_|with_reducible (first |refine zah ?_|refine zaa ?_|refine zag ?_|refine zad ?_|refine zan ?_)|refine zab rfl rfl True.intro ?_|refine zaq rfl ?_|fail)
  all_goals exact congrArg D.b (decide_eq_decide.2 (zbO x l))
set_option maxHeartbeats 4000000 in
theorem zhf (l : List Tx) (x : Tx) (hl : l.length ≤ 1099511627776) : Ctr Tryz.prog 35 [.sl 1 l.length (Csv.rowF l), .s x] (.b (decide (x ∈ l))) := by
  refine zax Tryz.func35 rfl Tryz.ntmps35 Tryz.results35 rfl rfl fun X hL hX => ?_
  repeat' (first |with_reducible (first |refine zah ?_|refine zaa ?_|refine zag ?_|refine zad ?_|refine zaf ?_)|refine zab rfl rfl True.intro ?_|fail)
  refine T.loop hL (fun i : Nat => [(0, .sl 1 l.length (Csv.rowF l)), (1, .s x), (5, .i .i64 i)]) (fun _ => [])
    (fun i => i ≤ l.length ∧ x ∉ l.take i) (fun i => l.length - i) 0 ⟨Nat.zero_le _, by rw [List.take_zero]; exact List.not_mem_nil⟩
    ⟨⟨rfl, rfl, rfl, trivial⟩, trivial, rfl, by rw [hX]; simp⟩ ?_
  rintro i ⟨h1, h2⟩
  try dsimp only at h1 h2 ⊢
  have hnat : (i : Int).toNat = i := Int.toNat_natCast i
  by_cases hi : i < l.length
  rotate_left
  · have hi' : ¬ (i : Int) < l.length := by omega
    rw [List.take_of_length_le (by omega)] at h2
    rw [decide_eq_false h2]
    repeat' (first |with_reducible (first |refine zah ?_|refine zaa ?_|refine zag ?_|refine zad ?_|refine zan ?_|refine zat ?_|refine zas ?_)|refine zab rfl rfl True.intro ?_|((first |refine zac rfl ?_ ?_)<;>intro<;>try (first |contradiction))|refine zaB rfl ?_|refine zaq rfl ?_|fail)
    all_goals rfl
  have hi' : (i : Int) < l.length := by omega
  have tm := zjW (l := l) (j := i) hi x
  by_cases hk : l.getD i [] = x
  · have hin : x ∈ l := List.mem_of_mem_take (tm.2 (.inr hk))
    rw [decide_eq_true hin]
    have hk' : l.getD (i : Int).toNat [] = x := by rw [hnat]; exact hk
    repeat' (first |with_reducible (first |refine zah ?_|refine zaa ?_|refine zag ?_|refine zad ?_|refine zan ?_|refine zai ?_|refine zaf ?_|refine zam ?_|refine zaz ?_)|refine zab rfl rfl True.intro ?_|((first |refine zac rfl ?_ ?_|refine zaQ rfl ?_ ?_)<;>intro<;>try (first |contradiction))|((first |refine zab rfl rfl ?_ ?_);focus (first |omega|exact le_ rfl|((repeat' refine And.intro ?_ ?_)<;>omega)))|refine zaq rfl ?_|fail)
    all_goals first
      | rfl
      | (exfalso; omega)
      | trace_state
  · have hk' : ¬ l.getD (i : Int).toNat [] = x := by rw [hnat]; exact hk
    have hn : x ∉ l.take (i + 1) := fun q => (tm.1 q).elim h2 hk
    repeat' (first |with_reducible (first |refine zah ?_|refine zaa ?_|refine zag ?_|refine zad ?_|refine zai ?_|refine zaf ?_|refine zao ?_)|refine zab rfl rfl True.intro ?_|((first |refine zac rfl ?_ ?_|refine zaQ rfl ?_ ?_)<;>intro<;>try (first |contradiction))|((first |refine zab rfl rfl ?_ ?_);focus (first |omega|exact le_ rfl|((repeat' refine And.intro ?_ ?_)<;>omega)))|fail)
    all_goals first
      | exact ⟨i + 1, ⟨by omega, hn⟩, by omega, ⟨rfl, rfl, rfl, trivial⟩, trivial, rfl, by rw [hX]; simp⟩
      | (exfalso; omega)
      | trace_state
set_option maxHeartbeats 4000000 in
theorem zoX (ns : List Tx) (x : Tx) (hl : ns.length ≤ 1099511627776) : Ctr Tryz.prog 65 [.s x, .rf [.sl 1 ns.length (Csv.rowF ns)] 0] (.b (!decide (x ∈ ns))) := by
  have c := zgk ns x hl
  refine zax Tryz.func65 rfl Tryz.ntmps65 Tryz.results65 rfl rfl fun X hL hX => ?_
  repeat' (first |refine zae (f := 33) rfl rfl Tryz.call33 rfl c ?_|with_reducible (first |refine zah ?_|refine zaa ?_|refine zag ?_|refine zad ?_|refine zan ?_)|refine zab rfl rfl True.intro ?_|((first |refine zab rfl rfl ?_ ?_);focus (first |exact le_ rfl|((repeat' refine And.intro ?_ ?_)<;>omega)))|refine zaq rfl ?_|fail)
  all_goals rfl
def outI (ns : List Tx) : List Tx → Int
  | [] => -1
  | a :: r => if a ∉ ns then 0 else if outI ns r < 0 then -1 else outI ns r + 1
theorem zjV {ns : List Tx} : ∀ {l : List Tx} {i : Nat}, (∀ j, j < i → l.getD j [] ∈ ns) → i < l.length → l.getD i [] ∉ ns → outI ns l = i
  | [], _, _, h, _ => absurd h (Nat.not_lt_zero _)
  | a :: r, 0, _, _, h => by
    rw [outI, if_pos (show a ∉ ns from h)]
    rfl
  | a :: r, i + 1, h1, h2, h3 => by
    have h0 : a ∈ ns := h1 0 (by omega)
    have ih := zjV (ns := ns) (l := r) (i := i) (fun j hj => by have := h1 (j + 1) (by omega); simpa using this) (by simpa using h2) (by simpa using h3)
    rw [outI, if_neg (fun q => q h0), ih, if_neg (by omega)]
    rfl
theorem zeG {ns : List Tx} : ∀ {l : List Tx}, (∀ j, j < l.length → l.getD j [] ∈ ns) → outI ns l = -1
  | [], _ => rfl
  | a :: r, h => by
    have h0 : a ∈ ns := h 0 (by simp)
    have ih := zeG (ns := ns) (l := r) fun j hj => by have := h (j + 1) (by simpa using hj); simpa using this
    rw [outI, if_neg (fun q => q h0), ih]
    rfl
set_option maxHeartbeats 4000000 in
theorem zlo (ns l : List Tx) (hn : ns.length ≤ 1099511627776) (hl : l.length ≤ 1099511627776) : Ctr Tryz.prog 111 [.sl 1 l.length (Csv.rowF l), .fn 65 [.rf [.sl 1 ns.length (Csv.rowF ns)] 0]] (.i .i64 (outI ns l)) := by
  refine zax Tryz.func111 rfl Tryz.ntmps111 Tryz.results111 rfl rfl fun X hL hX => ?_
  repeat' (first |with_reducible (first |refine zah ?_|refine zaa ?_|refine zag ?_|refine zad ?_|refine zaf ?_)|refine zab rfl rfl True.intro ?_|fail)
  refine T.loop hL (fun i : Nat => [(0, .sl 1 l.length (Csv.rowF l)), (1, .fn 65 [.rf [.sl 1 ns.length (Csv.rowF ns)] 0]), (7, .i .i64 l.length), (8, .i .i64 i)]) (fun _ => [])
    (fun i => i ≤ l.length ∧ ∀ j, j < i → l.getD j [] ∈ ns) (fun i => l.length - i) 0 ⟨Nat.zero_le _, fun j h => absurd h (Nat.not_lt_zero _)⟩
    ⟨⟨rfl, rfl, rfl, rfl, trivial⟩, trivial, rfl, by rw [hX]; simp⟩ ?_
  rintro i ⟨g1, g2⟩
  try dsimp only at g1 g2 ⊢
  have hnat : (i : Int).toNat = i := Int.toNat_natCast i
  by_cases hil : i < l.length
  rotate_left
  · rw [zeG (fun j hj => g2 j (by omega))]
    have hil' : ¬ (i : Int) < l.length := by omega
    repeat' (first |with_reducible (first |refine zah ?_|refine zaa ?_|refine zag ?_|refine zad ?_|refine zan ?_|refine zat ?_|refine zas ?_)|refine zab rfl rfl True.intro ?_|((first |refine zac rfl ?_ ?_)<;>intro<;>try (first |contradiction))|refine zaB rfl ?_|refine zaq rfl ?_|fail)
    all_goals rfl
  have hil' : (i : Int) < l.length := by omega
  have c := zoX ns (l.getD (i : Int).toNat []) hn
  by_cases hv : l.getD (i : Int).toNat [] ∈ ns
  · rw [decide_eq_true hv] at c
    replace c : Ctr Tryz.prog 65 [.s (l.getD (i : Int).toNat []), .rf [.sl 1 ns.length (Csv.rowF ns)] 0] (.b false) := c
    have g3 : ∀ j, j < i + 1 → l.getD j [] ∈ ns := fun j hj => by
      by_cases e : j = i
      · rw [e]
        rwa [hnat] at hv
      · exact g2 j (by omega)
    clear g2
    repeat' (first |refine zae (f := 65) rfl rfl Tryz.call65 rfl c ?_|with_reducible (first |refine zah ?_|refine zaa ?_|refine zag ?_|refine zad ?_|refine zai ?_|refine zaf ?_|refine zao ?_)|refine zab rfl rfl True.intro ?_|refine zal rfl ?_|((first |refine zac rfl ?_ ?_)<;>intro<;>try (first |contradiction))|((first |refine zab rfl rfl ?_ ?_);focus (first |omega|exact le_ rfl|((repeat' refine And.intro ?_ ?_)<;>omega)))|fail)
    all_goals exact ⟨i + 1, ⟨by omega, g3⟩, by omega, ⟨rfl, rfl, rfl, rfl, trivial⟩, trivial, rfl, by rw [hX]; simp⟩
  · rw [decide_eq_false hv] at c
    replace c : Ctr Tryz.prog 65 [.s (l.getD (i : Int).toNat []), .rf [.sl 1 ns.length (Csv.rowF ns)] 0] (.b true) := c
    rw [zjV g2 hil (by rwa [hnat] at hv)]
    clear g2
    repeat' (first |refine zae (f := 65) rfl rfl Tryz.call65 rfl c ?_|with_reducible (first |refine zah ?_|refine zaa ?_|refine zag ?_|refine zad ?_|refine zan ?_|refine zai ?_|refine zaf ?_|refine zam ?_|refine zaz ?_)|refine zab rfl rfl True.intro ?_|refine zau rfl ?_|((first |refine zac rfl ?_ ?_)<;>intro<;>try (first |contradiction))|((first |refine zab rfl rfl ?_ ?_);focus (first |omega|exact le_ rfl|((repeat' refine And.intro ?_ ?_)<;>omega)))|refine zaq rfl ?_|fail)
    all_goals rfl
theorem zoM {ns l : List Tx} : decide (0 ≤ outI ns l) = !decide (hasAllT ns l) := by
  by_cases h : hasAllT ns l
  · rw [zeG h, decide_eq_true h]
    rfl
  · rw [decide_eq_false h]
    refine decide_eq_true ?_
    induction l with
    | nil => exact absurd (fun i hi => absurd hi (Nat.not_lt_zero _)) h
    | cons a r ih =>
      rw [outI]
      by_cases h0 : a ∉ ns
      · rw [if_pos h0]
        exact Int.le_refl _
      · rw [if_neg h0]
        have hr : ¬ hasAllT ns r := fun q => h fun i hi => by
          match i with
          | 0 => exact Decidable.not_not.1 h0
          | i + 1 =>
            rw [List.getD_cons_succ]
            exact q i (by simpa using hi)
        have := ih hr
        rw [if_neg (by omega)]
        omega
set_option maxHeartbeats 4000000 in
theorem zhb (ns l : List Tx) (hn : ns.length ≤ 1099511627776) (hl : l.length ≤ 1099511627776) : Ctr Tryz.prog 64 [.sl 1 l.length (Csv.rowF l), .fn 65 [.rf [.sl 1 ns.length (Csv.rowF ns)] 0]] (.b (!decide (hasAllT ns l))) := by
  have c := zlo ns l hn hl
  rw [← zoM]
  refine zax Tryz.func64 rfl Tryz.ntmps64 Tryz.results64 rfl rfl fun X hL hX => ?_
  repeat' (first |refine zae (f := 111) rfl rfl Tryz.call111 rfl c ?_|with_reducible (first |refine zah ?_|refine zaa ?_|refine zag ?_|refine zad ?_|refine zan ?_)|refine zab rfl rfl True.intro ?_|refine zaq rfl ?_|fail)
  all_goals rfl
set_option maxHeartbeats 4000000 in
theorem zeB (ns l : List Tx) (hn : ns.length ≤ 1099511627776) (hl : l.length ≤ 1099511627776) : Ctr Tryz.prog 31 [.sl 1 ns.length (Csv.rowF ns), .sl 1 l.length (Csv.rowF l)] (.b (decide (hasAllT ns l))) := by
  have c := zhb ns l hn hl
  refine zax Tryz.func31 rfl Tryz.ntmps31 Tryz.results31 rfl rfl fun X hL hX => ?_
  repeat' (first |with_reducible (first |refine zah ?_|refine zaa ?_|refine zag ?_|refine zad ?_|refine zan ?_)|refine zab rfl rfl True.intro ?_|((first |refine zav rfl rfl ?_ ?_);focus (first |((repeat' refine And.intro ?_ ?_)<;>omega)|((repeat' refine And.intro ?_ ?_)<;>first |rfl)))|refine zaq rfl ?_|refine zqW (f := 64) rfl rfl Tryz.call64 ⟨trivial, ⟨rfl, trivial⟩, trivial⟩ rfl c rfl ?_|fail)
  all_goals (refine congrArg D.b ?_; simp; done)
set_option maxRecDepth 100000 in
set_option maxHeartbeats 4000000 in
theorem zfU (l : List Tx) (hl : l.length ≤ 4194304) (hb : ∀ i, (l.getD i []).length ≤ 4194304) : Ctr Tryz.prog 32 [.sl 1 l.length (Csv.rowF l)] (.b (decide (rightN l))) := by
  refine zax Tryz.func32 rfl Tryz.ntmps32 Tryz.results32 rfl rfl fun X hL hX => ?_
  repeat' (first |refine zpJ rfl rfl ?_|with_reducible (first |refine zah ?_|refine zaa ?_|refine zag ?_|refine zad ?_|refine zaf ?_)|refine zab rfl rfl True.intro ?_|fail)
  refine T.loop hL (fun i : Nat => [(3, .mh 6), (7, .sl 1 l.length (Csv.rowF l)), (8, .i .i64 l.length), (9, .i .i64 i)]) (fun i => [(6, .mp (mapB (l.take i)))])
    (fun i => i ≤ l.length ∧ ∀ j, j < i → validL (l.getD j []) = true ∧ l.getD j [] ∉ l.take j) (fun i => l.length - i) 0 ⟨Nat.zero_le _, fun j h => absurd h (Nat.not_lt_zero _)⟩
    ⟨⟨rfl, rfl, rfl, rfl, trivial⟩, ⟨rfl, trivial⟩, okM1 rfl, by rw [hX]; simp⟩ ?_
  rintro i ⟨g1, g2⟩
  try dsimp only at g1 g2 ⊢
  have hnat : (i : Int).toNat = i := Int.toNat_natCast i
  by_cases hil : i < l.length
  rotate_left
  · have hil' : ¬ (i : Int) < l.length := by omega
    rw [decide_eq_true (show rightN l from fun j hj => g2 j (by omega))]
    repeat' (first |with_reducible (first |refine zah ?_|refine zaa ?_|refine zag ?_|refine zad ?_|refine zan ?_|refine zat ?_|refine zas ?_)|refine zab rfl rfl True.intro ?_|((first |refine zac rfl ?_ ?_)<;>intro<;>try (first |(exfalso;omega)))|refine zaB rfl ?_|refine zaq rfl ?_|fail)
    all_goals rfl
  have hil' : (i : Int) < l.length := by omega
  have hv := zdz (l.getD (i : Int).toNat []) (by have := hb (i : Int).toNat; omega)
  by_cases hm : l.getD i [] ∈ l.take i
  · have hno : ¬ rightN l := fun q => (q i hil).2 hm
    rw [decide_eq_false hno]
    have hg : mget (l.getD (i : Int).toNat []) (mapB (l.take i)) = some (.b true) := zhs (by rw [hnat]; exact hm)
    clear g2 hno hm
    repeat' (first |refine znd zdB Tryz.underlying9 rfl rfl rfl hg rfl ?_|with_reducible (first |refine zah ?_|refine zaa ?_|refine zag ?_|refine zad ?_|refine zan ?_|refine zai ?_|refine zaf ?_|refine zam ?_|refine zaz ?_)|refine zab rfl rfl True.intro ?_|refine zap rfl rfl rfl ?_|refine zau rfl ?_|((first |refine zac rfl ?_ ?_)<;>intro<;>try (first |(exfalso;omega)))|((first |refine zab rfl rfl ?_ ?_);focus (first |omega|exact le_ rfl|((repeat' refine And.intro ?_ ?_)<;>omega)))|refine zaq rfl ?_|fail)
    all_goals rfl
  · have hg : mget (l.getD (i : Int).toNat []) (mapB (l.take i)) = none := zfL (by rw [hnat]; exact hm)
    have hp := zhE (k := l.getD (i : Int).toNat []) (ks := l.take i) (by rw [hnat]; exact hm)
    have ht := zcI hil
    cases hq : validL (l.getD i []) with
    | false =>
      have hno : ¬ rightN l := fun q => by
        have := (q i hil).1
        rw [hq] at this
        cases this
      rw [decide_eq_false hno]
      rw [hnat, hq] at hv
      replace hv : Ctr Tryz.prog 66 [.s (l.getD (i : Int).toNat [])] (.b false) := by rw [hnat]; exact hv
      clear g2 hno hm hp ht
      repeat' (first |refine zhh zdB Tryz.underlying9 rfl rfl rfl rfl hg rfl ?_|refine zaw (f := 66) rfl rfl rfl rfl Tryz.call66 rfl hv ?_|with_reducible (first |refine zah ?_|refine zaa ?_|refine zag ?_|refine zad ?_|refine zan ?_|refine zai ?_|refine zaf ?_|refine zam ?_|refine zaz ?_)|refine zab rfl rfl True.intro ?_|refine zaj rfl rfl rfl rfl True.intro ?_|refine zau rfl ?_|((first |refine zac rfl ?_ ?_)<;>intro<;>try (first |(exfalso;omega)))|((first |refine zab rfl rfl ?_ ?_);focus (first |omega|exact le_ rfl|((repeat' refine And.intro ?_ ?_)<;>omega)))|refine zaq rfl ?_|fail)
      all_goals rfl
    | true =>
      rw [hnat, hq] at hv
      replace hv : Ctr Tryz.prog 66 [.s (l.getD (i : Int).toNat [])] (.b true) := by rw [hnat]; exact hv
      have g3 : ∀ j, j < i + 1 → validL (l.getD j []) = true ∧ l.getD j [] ∉ l.take j := fun j hj => by
        by_cases e : j = i
        · rw [e]
          exact ⟨hq, hm⟩
        · exact g2 j (by omega)
      clear g2 hm
      repeat' (first |refine zhh zdB Tryz.underlying9 rfl rfl rfl rfl hg rfl ?_|refine zaw (f := 66) rfl rfl rfl rfl Tryz.call66 rfl hv ?_|refine zpl zdB Tryz.underlying9 rfl rfl rfl rfl rfl ?_|with_reducible (first |refine zah ?_|refine zaa ?_|refine zag ?_|refine zad ?_|refine zai ?_|refine zaf ?_|refine zao ?_)|refine zab rfl rfl True.intro ?_|refine zaj rfl rfl rfl rfl True.intro ?_|refine zal rfl ?_|((first |refine zac rfl ?_ ?_)<;>intro<;>try (first |(exfalso;omega)))|((first |refine zab rfl rfl ?_ ?_);focus (first |omega|exact le_ rfl|((repeat' refine And.intro ?_ ?_)<;>omega)))|fail)
      all_goals exact ⟨i + 1, ⟨by omega, g3⟩, by omega, ⟨rfl, rfl, rfl, rfl, trivial⟩, ⟨congrArg (fun e => some (Own.mp e)) (by rw [ht]; rw [hnat] at hp ⊢; exact hp), trivial⟩, okM1 rfl, by rw [hX]; simp⟩
end Go.Proofs.YtkkaamhocpmhkaaGreatDoor.Flow

namespace Go.Proofs.YtkkaamhocpmhkaaGreatDoor.Flow.Csv
open Go
def hasP (a b : List UInt8) : Bool := decide (b.length ≤ a.length) && (a.take b.length == b)
theorem hasPre0 (a b : List UInt8) (_ha : a.length ≤ 1099511627776) (hb : b.length ≤ 1099511627776) : Ctr Tryz.prog 193 [.s a, .s b] (.b (hasP a b)) := by
  refine zax Tryz.func193 rfl Tryz.ntmps193 Tryz.results193 rfl rfl fun X hL hX => ?_
  repeat' (first |with_reducible (first |refine zah ?_|refine zaa ?_|refine zag ?_|refine zad ?_|refine zan ?_)|refine zab rfl rfl True.intro ?_|refine zap rfl rfl rfl ?_|refine zaj rfl rfl rfl rfl True.intro ?_|((first |refine zak rfl rfl ?_ ?_)<;>intro)|((first |refine zaj rfl rfl rfl rfl ?_ ?_);focus (first |omega))|refine zaq rfl ?_|fail)
  · simp only [hasP]
    congr 1
    have : b.length ≤ a.length := by omega
    simp [this]
  · simp only [hasP]
    congr 1
    have : ¬ b.length ≤ a.length := by omega
    simp [this]
theorem hasPre (a b : List UInt8) (ha : a.length ≤ 1099511627776) (hb : b.length ≤ 1099511627776) : Ctr Tryz.prog 166 [.s a, .s b] (.b (hasP a b)) := by
  refine zax Tryz.func166 rfl Tryz.ntmps166 Tryz.results166 rfl rfl fun X hL hX => ?_
  repeat' (first |with_reducible (first |refine zah ?_|refine zaa ?_|refine zag ?_|refine zad ?_|refine zan ?_)|refine zab rfl rfl True.intro ?_|refine zaq rfl ?_|refine zae (f := 193) rfl rfl Tryz.call193 rfl (hasPre0 a b ha hb) ?_|fail)
  rfl
theorem zaN (s : List UInt8) (i k : Nat) : (s.drop i).getD k 0 = s.getD (i + k) 0 := by
  simp [List.getD_eq_getElem?_getD]
theorem zoN (s : List UInt8) (i : Int) (n : Nat) (h : n < 256) : at' s i = n ↔ s.getD i.toNat 0 = UInt8.ofNat n := ziK _ n h
theorem zoB (s : List UInt8) (i : Int) (hi : 0 ≤ i) (c : Nat) (hc : c < 256) : hasP (s.drop i.toNat) [UInt8.ofNat c] = true ↔ i < s.length ∧ at' s i = c := by
  have e := zaN s i.toNat 0
  rw [zoN s i c hc]
  rw [Nat.add_zero] at e
  rw [← e]
  have hl : (s.drop i.toNat).length = s.length - i.toNat := by simp
  cases h : s.drop i.toNat with
  | nil =>
    rw [h] at hl
    simp only [List.length_nil] at hl
    have : ¬ i < s.length := by omega
    simp [hasP, this]
  | cons a r =>
    rw [h] at hl
    simp only [List.length_cons] at hl
    have : i < s.length := by omega
    simp [hasP, this]
theorem zom (s : List UInt8) (i : Int) (hi : 0 ≤ i) (c d : Nat) (hc : c < 256) (hd : d < 256) : hasP (s.drop i.toNat) [UInt8.ofNat c, UInt8.ofNat d] = true ↔ i + 1 < s.length ∧ at' s i = c ∧ at' s (i + 1) = d := by
  have e := zaN s i.toNat 0
  have e2 := zaN s i.toNat 1
  rw [zoN s i c hc, zoN s (i + 1) d hd]
  rw [Nat.add_zero] at e
  rw [show (i + 1).toNat = i.toNat + 1 by omega]
  rw [← e, ← e2]
  have hl : (s.drop i.toNat).length = s.length - i.toNat := by simp
  cases h : s.drop i.toNat with
  | nil =>
    rw [h] at hl
    simp only [List.length_nil] at hl
    have : ¬ i + 1 < s.length := by omega
    simp [hasP, this]
  | cons a r => cases r with
    | nil =>
      rw [h] at hl
      simp only [List.length_cons, List.length_nil] at hl
      have : ¬ i + 1 < s.length := by omega
      simp [hasP, this]
    | cons b r =>
      rw [h] at hl
      simp only [List.length_cons] at hl
      have : i + 1 < s.length := by omega
      simp [hasP, this]
def rd (s : List UInt8) (i e : Int) : List D := [.s s, .i .i64 i, .i .i64 e]
theorem zeN (s : List UInt8) (i e : Int) (hs : s.length ≤ 1099511627776) (hi : 0 ≤ i) (hi2 : i ≤ s.length) :
    CtrO Tryz.prog 110 [.pv 0 0] [(0, .var (rd s i e))] (.i .i64 (endF s i)) [(0, .var (rd s i e))] := by
  refine zgd Tryz.func110 rfl Tryz.ntmps110 Tryz.results110 rfl rfl rfl fun X hL hX => ?_
  have hb : ((List.take s.length s).drop i.toNat).length ≤ 1099511627776 := by simp; omega
  repeat' (first |with_reducible (first |refine zah ?_|refine zaa ?_|refine zag ?_|refine zad ?_|refine zan ?_|refine zai ?_|refine zaf ?_|refine zao ?_|refine zam ?_|refine zaz ?_|refine zaC ?_)|refine zab rfl rfl True.intro ?_|((first |refine zep rfl ?_ ?_)<;>intro)|((first |refine zab rfl rfl ?_ ?_);focus (first |omega|exact le_ rfl))|with_reducible refine ⟨by kernel_rfl, ?_⟩|refine zip rfl rfl ?_ rfl|refine zae (f := 166) rfl rfl Tryz.call166 rfl (hasPre _ _ (by simp;omega) (by decide)) ?_|fail)
  all_goals
    simp only [Int.toNat_natCast, List.take_length] at *
    have e2 : hasP (s.drop i.toNat) [13, 10] = true ↔ i + 1 < s.length ∧ at' s i = 13 ∧ at' s (i + 1) = 10 := zom s i hi 13 10 (by omega) (by omega)
    have e1 : hasP (s.drop i.toNat) [10] = true ↔ i < s.length ∧ at' s i = 10 := zoB s i hi 10 (by omega)
    congr 1
    simp only [endF]
  · have := e2.1 ‹_›
    rw [if_neg (by omega), if_pos this]
  · have := e1.1 ‹_›
    rw [if_pos this]
  · have h1 := mt e1.2 (by simp [*])
    have h2 := mt e2.2 (by simp [*])
    rw [if_neg h1, if_neg h2]
theorem zhg (s : List UInt8) (i e c : Int) : CtrO Tryz.prog 165 [.pv 0 0, .i .i64 c] [(0, .var (rd s i e))] (.tu []) [(0, .var (rd s i c))] := by
  refine zgd Tryz.func165 rfl Tryz.ntmps165 Tryz.results165 rfl rfl rfl fun X hL hX => ?_
  repeat' (first |with_reducible (first |refine zaa ?_|refine zag ?_)|refine zab rfl rfl True.intro ?_|((first |refine zaH rfl ?_ ?_);focus (first |((repeat' refine And.intro ?_ ?_)<;>first |rfl|exact Nat.le_refl _)))|refine zrD rfl rfl ?_ ?_|fail)
  all_goals rfl
theorem zki (s : List UInt8) (i e : Int) (hs : s.length ≤ 1099511627776) (hi : 0 ≤ i) (hi2 : i ≤ s.length) :
    CtrO Tryz.prog 164 [.pv 0 0] [(0, .var (rd s i e))] (.b (overF s i)) [(0, .var (rd s i e))] := by
  refine zgd Tryz.func164 rfl Tryz.ntmps164 Tryz.results164 rfl rfl rfl fun X hL hX => ?_
  repeat' (first |with_reducible (first |refine zah ?_|refine zaa ?_|refine zag ?_|refine zad ?_|refine zan ?_|refine zaC ?_)|refine zab rfl rfl True.intro ?_|refine zap rfl rfl rfl ?_|refine zaj rfl rfl rfl rfl True.intro ?_|((first |refine zak rfl rfl ?_ ?_)<;>intro)|((first |refine zab rfl rfl ?_ ?_|refine zaj rfl rfl rfl rfl ?_ ?_);focus (first |omega|exact le_ rfl))|with_reducible refine ⟨by kernel_rfl, ?_⟩|refine zip rfl rfl ?_ ?_|refine zqB (f := 110) 0 rfl rfl rfl rfl Tryz.call110 rfl rfl rfl rfl rfl (zeN s i e hs hi hi2) ?_|fail)
  all_goals first
    | rfl
    | (congr 1; simp only [overF]; grind)

def quotP (s : List UInt8) (i : Int) (b : List UInt8) : List UInt8 × Int × Int :=
  if h : i < s.length then
    if at' s i ≠ 34 then quotP s (i + 1) (b ++ [s.getD i.toNat 0])
    else if i + 1 < s.length ∧ at' s (i + 1) = 34 then quotP s (i + 2) (b ++ [34])
    else if overF s (i + 1) then (b, i + 1, 0)
    else (b, i + 1, 3)
  else ([], i, 2)
termination_by (s.length - i).toNat
decreasing_by all_goals omega
theorem zpf (s : List UInt8) (i : Int) (b : List UInt8) : (quotP s i b).2 = (quotF s i b).2 ∧ ((quotF s i b).2.2 = 0 → (quotP s i b).1 = (quotF s i b).1) := by
  fun_induction quotF s i b with
  | case1 i b h h2 ih => unfold quotP; rw [dif_pos h, if_pos h2]; exact ih
  | case2 i b h h2 h3 ih => unfold quotP; rw [dif_pos h, if_neg h2, if_pos h3]; exact ih
  | case3 i b h h2 h3 h4 => unfold quotP; rw [dif_pos h, if_neg h2, if_neg h3, if_pos h4]; simp
  | case4 i b h h2 h3 h4 => unfold quotP; rw [dif_pos h, if_neg h2, if_neg h3, if_neg h4]; simp
  | case5 i b h => unfold quotP; rw [dif_neg h]; simp
section
variable {s : List UInt8} {j : Int} {b : List UInt8}
theorem zlr (h : j < s.length) (h2 : ¬ at' s j = 34) : quotP s j b = quotP s (j + 1) (b ++ [s.getD j.toNat 0]) := by
  conv => lhs; unfold quotP
  rw [dif_pos h, if_pos h2]
theorem zmH (h : j < s.length) (h2 : at' s j = 34) (h3 : j + 1 < s.length) (h4 : at' s (j + 1) = 34) : quotP s j b = quotP s (j + 2) (b ++ [34]) := by
  conv => lhs; unfold quotP
  rw [dif_pos h, if_neg (by simpa using h2), if_pos ⟨h3, h4⟩]
theorem zmD (h : j < s.length) (h2 : at' s j = 34) (h3 : j + 1 < s.length → ¬ at' s (j + 1) = 34) : quotP s j b = if overF s (j + 1) then (b, j + 1, 0) else (b, j + 1, 3) := by
  conv => lhs; unfold quotP
  rw [dif_pos h, if_neg (by simpa using h2), if_neg (fun h => h3 h.1 h.2)]
theorem zlm (h : ¬ j < s.length) : quotP s j b = ([], j, 2) := by
  conv => lhs; unfold quotP
  rw [dif_neg h]
end
set_option maxHeartbeats 4000000 in
theorem zlb (s : List UInt8) (i : Int) (hs : s.length ≤ 1099511627776) (hi : 0 ≤ i) (hi2 : i < s.length) :
    CtrO Tryz.prog 163 [.pv 0 0] [(0, .var (rd s i 0))] (.s (quotP s (i + 1) []).1) [(0, .var (rd s (quotP s (i + 1) []).2.1 (quotP s (i + 1) []).2.2))] := by
  refine zgd Tryz.func163 rfl Tryz.ntmps163 Tryz.results163 rfl rfl rfl fun X hL hX => ?_
  repeat' (first |with_reducible (first |refine zah ?_|refine zaa ?_|refine zag ?_|refine zad ?_|refine zaf ?_)|refine zab rfl rfl True.intro ?_|((first |refine zab rfl rfl ?_ ?_|refine zaH rfl ?_ ?_);focus (first |omega|exact le_ rfl|((repeat' refine And.intro ?_ ?_)<;>first |rfl|exact le_ rfl)))|fail)
  refine T.adopt 3 3 5 1 (bytesF []) rfl rfl ?_
  refine T.loop hL (fun x : Int × List UInt8 => [(0, .pv 0 0), (3, .gs 3 1 x.2.length (bytesF x.2))]) (fun x => [(0, .var (rd s x.1 0)), (3, .row 5 1 x.2.length)])
    (fun x => 0 ≤ x.1 ∧ x.1 ≤ s.length ∧ x.2.length ≤ x.1.toNat ∧ quotP s x.1 x.2 = quotP s (i + 1) []) (fun x => (s.length - x.1).toNat) (i + 1, []) (by simp; omega)
    ⟨⟨rfl, rfl, trivial⟩, ⟨rfl, rfl, trivial⟩, rfl, by rw [hX]; simp⟩ ?_
  rintro ⟨j, b⟩ ⟨h1, h2, h3, h4⟩
  dsimp only at h1 h2 h3 h4 ⊢
  repeat' (first |with_reducible (first |refine zah ?_|refine zaa ?_|refine zag ?_|refine zad ?_|refine zan ?_|refine zai ?_|refine zat ?_|refine zaf ?_|refine zao ?_|refine zas ?_|refine zam ?_|refine zaz ?_|refine zaC ?_)|refine zab rfl rfl True.intro ?_|refine zap rfl rfl rfl ?_|refine zaj rfl rfl rfl rfl True.intro ?_|refine zau rfl ?_|((first |refine zac rfl ?_ ?_|refine zaR rfl ?_ ?_|refine zaS rfl ?_ ?_|refine zak rfl rfl ?_ ?_)<;>intro)|((first |refine zab rfl rfl ?_ ?_|refine zaj rfl rfl rfl rfl ?_ ?_|refine zav rfl rfl ?_ ?_|refine zaH rfl ?_ ?_);focus (first |omega|exact le_ rfl|(simp_all;omega)|((repeat' refine And.intro ?_ ?_)<;>first |omega|rfl|exact le_ rfl|exact zdS _)))|refine zaB rfl ?_|with_reducible refine ⟨by kernel_rfl, ?_⟩|refine zip rfl rfl ?_ ?_|refine zeo (f := 164) 0 rfl rfl Tryz.call164 rfl rfl rfl rfl rfl (zki s (j + 1) 0 (by omega) (by omega) (by omega)) ?_|refine zeo (f := 165) 0 rfl rfl Tryz.call165 rfl rfl rfl rfl rfl (zhg s (j + 1) 0 3) ?_|refine zeo (f := 165) 0 rfl rfl Tryz.call165 rfl rfl rfl rfl rfl (zhg s j 0 2) ?_|fail)
  all_goals first
    | (rw [← h4, zlm ‹_›] <;> rfl)
    | (rw [← h4, zmD ‹_› ‹_› (fun _ => by first | assumption | omega)]; simp only [*, zbq, if_true, Bool.false_eq_true, if_false]; done)
    | skip
  · have e34 : s.getD j.toNat 0 = 34 := (zoN s j 34 (by omega)).1 ‹_›
    exact ⟨(j + 1 + 1, b ++ [s.getD j.toNat 0]), ⟨by dsimp only; omega, by dsimp only; omega, by simp; omega, by rw [← h4, show quotP s j b = _ from zmH ‹_› ‹_› (by omega) ‹_›, e34]; dsimp only; rw [show j + 1 + 1 = j + 2 by omega]⟩, by dsimp only; omega,
      ⟨rfl, zeE 3 b _ _ rfl, trivial⟩, ⟨rfl, by rw [List.length_append]; rfl, trivial⟩, rfl, by rw [hX]; simp⟩
  · exact ⟨(j + 1, b ++ [s.getD j.toNat 0]), ⟨by dsimp only; omega, by dsimp only; omega, by simp; omega, by rw [← h4]; exact (zlr ‹_› ‹_›).symm⟩, by dsimp only; omega,
      ⟨rfl, zeE 3 b _ _ rfl, trivial⟩, ⟨rfl, by rw [List.length_append]; rfl, trivial⟩, rfl, by rw [hX]; simp⟩
def sub (s : List UInt8) (i j : Int) : List UInt8 := (s.take j.toNat).drop i.toNat
theorem zoi (s : List UInt8) (i j : Int) (hi : 0 ≤ i) (hij : i ≤ j) (hj : j < s.length) : sub s i (j + 1) = sub s i j ++ [s.getD j.toNat 0] := by
  unfold sub
  rw [show (j + 1).toNat = j.toNat + 1 by omega, List.take_add_one, List.drop_append_of_le_length (by simp; omega)]
  congr 1
  simp [List.getD_eq_getElem?_getD, show j.toNat < s.length by omega]
theorem sub_self (s : List UInt8) (i : Int) : sub s i i = [] := by
  unfold sub
  simp
def fieldP (s : List UInt8) (i : Int) : List UInt8 × Int × Int :=
  if i < s.length ∧ at' s i = 34 then quotP s (i + 1) [] else plainF s i []
theorem zmY (s : List UInt8) (i : Int) : (fieldP s i).2 = (fieldF s i).2 ∧ ((fieldF s i).2.2 = 0 → (fieldP s i).1 = (fieldF s i).1) := by
  unfold fieldP fieldF
  split
  · exact zpf ..
  · exact ⟨rfl, fun _ => rfl⟩
set_option maxHeartbeats 4000000 in
theorem zmX (s : List UInt8) (i : Int) (hs : s.length ≤ 1099511627776) (hi : 0 ≤ i) (hi2 : i ≤ s.length) :
    CtrO Tryz.prog 109 [.pv 0 0] [(0, .var (rd s i 0))] (.s (fieldP s i).1) [(0, .var (rd s (fieldP s i).2.1 (fieldP s i).2.2))] := by
  refine zgd Tryz.func109 rfl Tryz.ntmps109 Tryz.results109 rfl rfl rfl fun X hL hX => ?_
  have hq : i < s.length → at' s i = 34 → fieldP s i = quotP s (i + 1) [] := fun h h2 => if_pos ⟨h, h2⟩
  repeat' (first |with_reducible (first |refine zah ?_|refine zaa ?_|refine zag ?_|refine zad ?_|refine zan ?_|refine zai ?_|refine zaf ?_|refine zam ?_|refine zaC ?_)|refine zab rfl rfl True.intro ?_|refine zap rfl rfl rfl ?_|refine zaj rfl rfl rfl rfl True.intro ?_|refine zal rfl ?_|((first |refine zac rfl ?_ ?_|refine zak rfl rfl ?_ ?_)<;>intro)|((first |refine zab rfl rfl ?_ ?_|refine zaj rfl rfl rfl rfl ?_ ?_);focus (first |omega|exact le_ rfl))|with_reducible refine ⟨by kernel_rfl, ?_⟩|refine zip rfl rfl ?_ ?_|refine zeo (f := 163) 0 rfl rfl Tryz.call163 rfl rfl rfl rfl rfl (zlb s i (by omega) (by omega) (by omega)) ?_|fail)
  · rw [hq ‹_› ‹_›]
  · rw [hq ‹_› ‹_›]
  all_goals
    have hf : fieldP s i = plainF s i [] := if_neg (by rintro ⟨_, _⟩; contradiction)
    refine T.loop hL (fun j : Int => [(0, .pv 0 0), (3, .i .i64 i)]) (fun j => [(0, .var (rd s j 0))])
      (fun j => i ≤ j ∧ j ≤ s.length ∧ plainF s j (sub s i j) = plainF s i []) (fun j => (s.length - j).toNat) i ⟨by omega, by omega, by rw [sub_self]⟩
      ⟨⟨rfl, rfl, trivial⟩, ⟨rfl, trivial⟩, rfl, by rw [hX]; simp⟩ ?_
    rintro j ⟨h1, h2, h4⟩
    try dsimp only at h1 h2 h4 ⊢
    have hj : overF s j = false → j < s.length := zeu
    repeat' (first |with_reducible (first |refine zah ?_|refine zaa ?_|refine zag ?_|refine zad ?_|refine zan ?_|refine zai ?_|refine zat ?_|refine zaf ?_|refine zao ?_|refine zas ?_|refine zam ?_|refine zaz ?_|refine zaC ?_)|refine zab rfl rfl True.intro ?_|((first |refine zac rfl ?_ ?_|refine zaS rfl ?_ ?_)<;>intro<;>try (first |contradiction))|((first |refine zab rfl rfl ?_ ?_|refine zaH rfl ?_ ?_);focus (first |omega|exact le_ rfl|(simp_all;omega)|((repeat' refine And.intro ?_ ?_)<;>first |rfl|exact le_ rfl)))|refine zaB rfl ?_|with_reducible refine ⟨by kernel_rfl, ?_⟩|refine zip rfl rfl ?_ ?_|refine zeo (f := 164) 0 rfl rfl Tryz.call164 rfl rfl rfl rfl rfl (zki s j 0 (by omega) (by omega) (by omega)) ?_|refine zeo (f := 165) 0 rfl rfl Tryz.call165 rfl rfl rfl rfl rfl (zhg s j 0 3) ?_|fail)
    all_goals first
      | (rw [hf, ← h4, zcO ‹_› (.inl ‹_›)] <;> rfl)
      | (rw [hf, ← h4, zcO ‹_› (.inr ‹_›)] <;> rfl)
      | (rw [hf, ← h4, zfk ‹_›] <;> rfl)
      | exact ⟨j + 1, ⟨by omega, by have := hj ‹_›; omega, by rw [← h4, zoi s i j (by omega) (by omega) (hj ‹_›)]; exact (zfj ‹_› ‹_› ‹_›).symm⟩, by have := hj ‹_›; omega, ⟨rfl, rfl, trivial⟩, ⟨rfl, trivial⟩, rfl, by rw [hX]; simp⟩
      | skip

def rowAt (s : List UInt8) (i : Int) : Int := if (rowG s i []).2.2 = 0 then (rowG s i []).2.1 + endF s (rowG s i []).2.1 else (rowG s i []).2.1
set_option maxHeartbeats 4000000 in
theorem zgL (s : List UInt8) (i : Int) (hs : s.length ≤ 1099511627776) (hi : 0 ≤ i) (hi2 : i ≤ s.length) :
    CtrO Tryz.prog 62 [.pv 0 0] [(0, .var (rd s i 0))] (.sl 1 (rowG s i []).1.length (rowF (rowG s i []).1)) [(0, .var (rd s (rowAt s i) (rowG s i []).2.2))] := by
  refine zgd Tryz.func62 rfl Tryz.ntmps62 Tryz.results62 rfl rfl rfl fun X hL hX => ?_
  repeat' (first |with_reducible (first |refine zah ?_|refine zaa ?_|refine zag ?_|refine zad ?_|refine zaf ?_)|refine zab rfl rfl True.intro ?_|fail)
  refine T.adopt 3 3 9 1 (rowF []) rfl rfl ?_
  refine T.loop hL (fun x : Int × List (List UInt8) => [(0, .pv 0 0), (3, .gs 3 1 x.2.length (rowF x.2))]) (fun x => [(0, .var (rd s x.1 0)), (3, .row 9 1 x.2.length)])
    (fun x => 0 ≤ x.1 ∧ x.1 ≤ s.length ∧ x.2.length ≤ x.1.toNat ∧ rowG s x.1 x.2 = rowG s i []) (fun x => (s.length + 1 - x.1).toNat) (i, []) (by simp; omega)
    ⟨⟨rfl, rfl, trivial⟩, ⟨rfl, rfl, trivial⟩, rfl, by rw [hX]; simp⟩ ?_
  rintro ⟨j, l⟩ ⟨g1, g2, g3, g4⟩
  dsimp only at g1 g2 g3 g4 ⊢
  have hsp := zbe s j g1 g2
  have hen := zdl s (fieldF s j).2.1
  have hle := zgS s (fieldF s j).2.1 hsp.2.1
  obtain ⟨f1, f2⟩ := zmY s j
  have hfc := zmX s j hs g1 g2
  rw [f1] at hfc
  have hbad : ¬ (fieldF s j).2.2 = 0 → rowG s i [] = ([], (fieldF s j).2.1, (fieldF s j).2.2) := fun h => by rw [← g4, zjF h]
  have hgood : (fieldF s j).2.2 = 0 → ((fieldF s j).2.1 < s.length → ¬ at' s (fieldF s j).2.1 = 44) → rowG s i [] = (l ++ [(fieldP s j).1], (fieldF s j).2.1, 0) := fun h h' => by rw [← g4, zjP h h', f2 h]
  have hmore : (fieldF s j).2.2 = 0 → (fieldF s j).2.1 < s.length → at' s (fieldF s j).2.1 = 44 → rowG s ((fieldF s j).2.1 + 1) (l ++ [(fieldP s j).1]) = rowG s i [] := fun h h1 h2 => by rw [← g4, f2 h]; exact (zhH g1 g2 h h1 h2).symm
  generalize (fieldP s j).1 = x at *
  generalize (fieldF s j).2.1 = k at *
  generalize (fieldF s j).2.2 = c at *
  repeat' (first |with_reducible (first |refine zah ?_|refine zaa ?_|refine zag ?_|refine zad ?_|refine zan ?_|refine zaf ?_|refine zao ?_|refine zam ?_|refine zaz ?_|refine zaC ?_)|refine zab rfl rfl True.intro ?_|refine zap rfl rfl rfl ?_|refine zaj rfl rfl rfl rfl True.intro ?_|refine zal rfl ?_|((first |refine zac rfl ?_ ?_|refine zaR rfl ?_ ?_|refine zak rfl rfl ?_ ?_)<;>intro)|((first |refine zab rfl rfl ?_ ?_|refine zaj rfl rfl rfl rfl ?_ ?_|refine zav rfl rfl ?_ ?_|refine zaH rfl ?_ ?_);focus (first |omega|exact le_ rfl|(simp_all;omega)|((repeat' refine And.intro ?_ ?_)<;>first |omega|rfl|exact le_ rfl)))|with_reducible refine ⟨by kernel_rfl, ?_⟩|refine zqA rfl rfl ?_ ?_|refine zeo (f := 109) 0 rfl rfl Tryz.call109 rfl rfl rfl rfl rfl hfc ?_|refine zqJ (f := 110) 0 rfl rfl Tryz.call110 rfl rfl rfl rfl (zeN s k c (by omega) (by omega) (by omega)) ?_|fail)
  · rw [hbad ‹_›]; exact .nil ..
  · unfold rowAt
    rw [hbad ‹_›, if_neg (by assumption)]
  · exact ⟨(k + 1, l ++ [x]), ⟨by dsimp only; omega, by dsimp only; omega, by simp; omega, hmore ‹_› ‹_› ‹_›⟩, by dsimp only; omega,
      ⟨rfl, gs_row 3 l _ _ rfl, trivial⟩, ⟨by subst c; rfl, by rw [List.length_append]; rfl, trivial⟩, rfl, by rw [hX]; simp⟩
  all_goals
    have hg := hgood ‹_› (fun _ => by first | assumption | omega)
    try unfold rowAt
    rw [hg]
    subst c
  · exact .of_eq (zms _ _ _ rfl)
  · rw [if_pos rfl]; rfl
  · exact .of_eq (zms _ _ _ rfl)
  · rw [if_pos rfl]; rfl
theorem zll (s : List UInt8) (i : Int) (hi : 0 ≤ i) (hi2 : i < s.length) : i ≤ rowAt s i ∧ rowAt s i ≤ s.length ∧ ((rowG s i []).2.2 = 0 → i < rowAt s i) := by
  have := zdv s i [] hi (by omega)
  have h2 := zdl s (rowG s i []).2.1
  have h3 := zgS s (rowG s i []).2.1 this.2.1
  unfold rowAt
  split
  · grind
  · grind
set_option maxHeartbeats 4000000 in
theorem parse_ctr (s : List UInt8) (hs : s.length ≤ 1099511627776) : Ctr Tryz.prog 29 [.s s] (parsed (parseG s)) := by
  refine zax Tryz.func29 rfl Tryz.ntmps29 Tryz.results29 rfl rfl fun X hL hX => ?_
  repeat' (first |with_reducible (first |refine zah ?_|refine zaa ?_|refine zag ?_|refine zad ?_|refine zan ?_|refine zai ?_|refine zaf ?_|refine zam ?_)|refine zab rfl rfl True.intro ?_|((first |refine zac rfl ?_ ?_)<;>intro)|((first |refine zav rfl rfl ?_ ?_);focus (first |((repeat' refine And.intro ?_ ?_)<;>first |rfl)))|refine zbN rfl ?_|fail)
  · rw [parseG, if_pos ‹_›]; exact .tu3 (.nil ..) (.refl _) (.refl _)
  · have hp : parseG s = tabG s 0 [] := if_neg ‹_›
    refine T.adopt 2 2 22 1 (tabF []) rfl rfl ?_
    refine T.loop hL (fun x : Int × List (List (List UInt8)) => [(0, .s s), (5, .pv 13 0), (2, .gs 2 1 x.2.length (tabF x.2))]) (fun x => [(13, .var (rd s x.1 0)), (2, .row 22 1 x.2.length)])
      (fun x => 0 ≤ x.1 ∧ x.1 ≤ s.length ∧ x.2.length ≤ x.1.toNat ∧ x.2.length ≤ 65536 ∧ tabG s x.1 x.2 = tabG s 0 []) (fun x => (s.length - x.1).toNat) (0, []) (by simp)
      ⟨⟨rfl, rfl, rfl, trivial⟩, ⟨rfl, rfl, trivial⟩, rfl, by rw [hX]; simp⟩ ?_
    rintro ⟨i, rows⟩ ⟨h1, h2, h3, h5, h4⟩
    dsimp only at h1 h2 h3 h4 h5 ⊢
    have hra : i < s.length → _ := zll s i h1
    have hrc := zgL s i hs h1 h2
    have hrow : ¬ (rowG s i []).2.2 = 0 → rowAt s i = (rowG s i []).2.1 := fun h => if_neg h
    have hrow2 : (rowG s i []).2.2 = 0 → rowAt s i = (rowG s i []).2.1 + endF s (rowG s i []).2.1 := fun h => if_pos h
    have tb := zju (s := s) (i := i) (rows := rows) h1
    have tf := zie (s := s) (i := i) (rows := rows) h1
    have tm := zhp (s := s) (i := i) (rows := rows) h1
    generalize (rowG s i []).2.1 = k at *
    generalize (rowG s i []).2.2 = c at *
    generalize (rowG s i []).1 = l at *
    generalize rowAt s i = at2 at *
    repeat' (first |with_reducible (first |refine zah ?_|refine zaa ?_|refine zag ?_|refine zad ?_|refine zan ?_|refine zai ?_|refine zat ?_|refine zaf ?_|refine zao ?_|refine zas ?_|refine zam ?_|refine zaz ?_|refine zaC ?_)|refine zab rfl rfl True.intro ?_|refine zap rfl rfl rfl ?_|refine zaj rfl rfl rfl rfl True.intro ?_|refine zal rfl ?_|((first |refine zac rfl ?_ ?_|refine zaR rfl ?_ ?_|refine zak rfl rfl ?_ ?_)<;>intro)|((first |refine zab rfl rfl ?_ ?_|refine zaj rfl rfl rfl rfl ?_ ?_|refine zav rfl rfl ?_ ?_);focus (first |omega|exact le_ rfl|(simp_all;done)|(simp_all;omega)|((repeat' refine And.intro ?_ ?_)<;>first |omega|rfl)))|refine zaB rfl ?_|with_reducible refine ⟨by kernel_rfl, ?_⟩|refine zbN rfl ?_|refine zeo (f := 62) 13 rfl rfl Tryz.call62 rfl rfl rfl rfl rfl hrc ?_|fail)
    · rw [hp, ← h4, zhN h1 ‹_› (by omega)]; exact .tu3 (.nil ..) (.refl _) (.refl _)
    · rw [hp, ← h4, tb ‹_› (by omega) ‹_›, hrow ‹_›]; exact .tu3 (.nil ..) (.refl _) (.refl _)
    · rw [hp, ← h4, tf ‹_› (by omega) ‹_› (by omega) (by simp only [Int.toNat_zero] at *; omega)]; exact .tu3 (.nil ..) (.refl _) (.refl _)
    · have hh := hra ‹_›
      have := hh.2.2 ‹_›
      exact ⟨(at2, rows ++ [l]), ⟨by dsimp only; omega, by dsimp only; omega, by simp; omega, by simp; omega, by rw [hrow2 ‹_›, ← h4]; exact (tm ‹_› (by omega) ‹_› (fun _ => by simp only [Int.toNat_zero] at *; omega)).symm⟩, by dsimp only; omega,
        ⟨rfl, rfl, zfK 2 rows _ _ rfl, trivial⟩, ⟨by subst c; rfl, by rw [List.length_append]; rfl, trivial⟩, rfl, by rw [hX]; simp⟩
    · have hh := hra ‹_›
      have := hh.2.2 ‹_›
      exact ⟨(at2, rows ++ [l]), ⟨by dsimp only; omega, by dsimp only; omega, by simp; omega, by simp; omega, by rw [hrow2 ‹_›, ← h4]; exact (tm ‹_› (by omega) ‹_› (fun _ => by omega)).symm⟩, by dsimp only; omega,
        ⟨rfl, rfl, zfK 2 rows _ _ rfl, trivial⟩, ⟨by subst c; rfl, by rw [List.length_append]; rfl, trivial⟩, rfl, by rw [hX]; simp⟩
    · rw [hp, ← h4, zir ‹_›]; exact .refl _
end Go.Proofs.YtkkaamhocpmhkaaGreatDoor.Flow.Csv

namespace Go.Proofs.YtkkaamhocpmhkaaGreatDoor.Flow
open Go
theorem zdI (rows : List (List Tx)) (k : Tx) : Csv.colI rows k = Csv.idxI k (namesR rows) := by
  cases rows with
  | nil => rfl
  | cons r q => rfl
theorem zjZ {l : List Tx} {i : Nat} (h : i < l.length) : l.getD i [] ∈ l := by
  rw [show l.getD i [] = l[i] by simp [List.getD_eq_getElem?_getD, h]]
  exact List.getElem_mem h
theorem zaI {n : Nat} {rows : List (List Tx)} (h : Csv.goodR n rows) : (namesR rows).length ≤ n + 1 ∧ ∀ i, ((namesR rows).getD i []).length ≤ n := by
  unfold namesR
  cases rows with
  | nil => exact ⟨Nat.zero_le _, fun i => by show (([] : List Tx).getD i []).length ≤ n; simp⟩
  | cons r q =>
    obtain ⟨_, h2, h3⟩ := h 0 (by simp)
    refine ⟨h2, fun i => ?_⟩
    by_cases hi : i < ((r :: q).getD 0 []).length
    · refine h3 _ ?_
      exact zjZ hi
    · rw [show ((r :: q).getD 0 []).getD i [] = [] by rw [List.getD_eq_getElem?_getD, List.getElem?_eq_none (Nat.le_of_not_lt hi)]; rfl]
      exact Nat.zero_le _
set_option maxRecDepth 100000 in
set_option maxHeartbeats 8000000 in
theorem zge (s : Tx) (j : JnR) (hs : s.length ≤ 1000000) (h1 : j.only.length ≤ 4194304) (h2 : j.notl.length ≤ 4194304) (hb : ¬ (tabJ s j).2 = 0) : Ctr Tryz.prog 9 [.s s, .ag (jnP j)] (.tu [.v (.pointer none), .i .i64 (tabJ s j).2]) := by
  have c1 := Csv.parse_ctr s (by omega)
  obtain ⟨hg, hn⟩ := Csv.parse_good s
  obtain ⟨n1, n2⟩ := zaI hg
  unfold tabJ at hb ⊢
  generalize Csv.parseG s = r at *
  obtain ⟨rows, at', e⟩ := r
  dsimp only at hb hg hn n1 n2 ⊢
  unfold Csv.parsed at c1
  dsimp only at c1
  have c2 := Csv.column_ctr rows j.key (by omega) (by have : (rows.getD 0 []).length ≤ s.length + 1 := n1; omega)
  rw [zdI] at c2
  have c3 := zeB (namesR rows) j.only (by omega) (by omega)
  have c4 := zeB (namesR rows) j.notl (by omega) (by omega)
  have c5 := zfU (namesR rows) (by omega) (fun i => Nat.le_trans (n2 i) (by omega))
  have hr : 0 ≤ Csv.idxI j.key (namesR rows) → (0 : Int) < rows.length := fun q => by
    cases rows with
    | nil => exact absurd (show (0 : Int) ≤ -1 from q) (by decide)
    | cons a b => simp only [List.length_cons]; omega
  have hm := zbO j.key (namesR rows)
  unfold namesR at c2 c3 c4 c5 hr hm
  unfold namesR at hb ⊢
  generalize Csv.idxI j.key (rows.getD 0 []) = kI at *
  by_cases he : ¬ e = 0
  · rw [if_pos he]
    dsimp only
    refine zax Tryz.func9 rfl Tryz.ntmps9 Tryz.results9 rfl rfl fun X hL hX => ?_
    repeat' (first |refine zae (f := 29) rfl rfl Tryz.call29 rfl c1 ?_|with_reducible (first |refine zah ?_|refine zaa ?_|refine zag ?_|refine zad ?_|refine zan ?_|refine zam ?_)|refine zab rfl rfl True.intro ?_|((first |refine zaR rfl ?_ ?_)<;>intro<;>try (first |contradiction))|((first |refine zav rfl rfl ?_ ?_);focus (first |((repeat' refine And.intro ?_ ?_)<;>omega)|((repeat' refine And.intro ?_ ?_)<;>first |rfl)))|refine zaq rfl ?_|fail)
    all_goals first
      | rfl
      | (exfalso; omega)
      | trace_state
  rw [if_neg he] at hb ⊢
  have he := Decidable.not_not.1 he
  subst he
  by_cases hk : j.key ∈ rows.getD 0 []
  rotate_left
  · rw [if_pos (fun q => hk q.1)]
    have hk0 : ¬ 0 ≤ kI := fun q => hk (hm.1 q)
    rw [decide_eq_false hk0] at c2
    dsimp only
    refine zax Tryz.func9 rfl Tryz.ntmps9 Tryz.results9 rfl rfl fun X hL hX => ?_
    repeat' (first |refine zae (f := 29) rfl rfl Tryz.call29 rfl c1 ?_|refine zae (f := 30) rfl rfl Tryz.call30 rfl c2 ?_|with_reducible (first |refine zah ?_|refine zaa ?_|refine zag ?_|refine zad ?_|refine zan ?_|refine zai ?_|refine zaf ?_|refine zam ?_|refine zaz ?_|refine zaC ?_)|refine zab rfl rfl True.intro ?_|refine zap rfl rfl rfl ?_|refine zau rfl ?_|refine zal rfl ?_|((first |refine zab rfl rfl ?_ ?_|refine zav rfl rfl ?_ ?_);focus (first |exact le_ rfl|((repeat' refine And.intro ?_ ?_)<;>omega)|((repeat' refine And.intro ?_ ?_)<;>first |rfl)))|with_reducible refine ⟨by kernel_rfl, ?_⟩|refine zaq rfl ?_|fail)
    all_goals first
      | rfl
      | (exfalso; omega)
      | trace_state
  have hk0 := hm.2 hk
  have hr := hr hk0
  rw [decide_eq_true hk0] at c2
  by_cases ho : hasAllT (rows.getD 0 []) j.only
  rotate_left
  · rw [if_pos (fun q => ho q.2.1)]
    rw [decide_eq_false ho] at c3
    dsimp only
    refine zax Tryz.func9 rfl Tryz.ntmps9 Tryz.results9 rfl rfl fun X hL hX => ?_
    repeat' (first |refine zae (f := 29) rfl rfl Tryz.call29 rfl c1 ?_|refine zae (f := 30) rfl rfl Tryz.call30 rfl c2 ?_|refine zaw (f := 31) rfl rfl rfl rfl Tryz.call31 rfl c3 ?_|with_reducible (first |refine zah ?_|refine zaa ?_|refine zag ?_|refine zad ?_|refine zan ?_|refine zai ?_|refine zaf ?_|refine zam ?_|refine zaz ?_|refine zaC ?_)|refine zab rfl rfl True.intro ?_|refine zap rfl rfl rfl ?_|refine zaj rfl rfl rfl rfl True.intro ?_|refine zau rfl ?_|refine zal rfl ?_|((first |refine zaT rfl rfl ?_ ?_)<;>intro<;>try (first |contradiction))|((first |refine zab rfl rfl ?_ ?_|refine zaj rfl rfl rfl rfl ?_ ?_|refine zav rfl rfl ?_ ?_);focus (first |omega|exact le_ rfl|((repeat' refine And.intro ?_ ?_)<;>omega)|((repeat' refine And.intro ?_ ?_)<;>first |rfl)))|with_reducible refine ⟨by kernel_rfl, ?_⟩|refine zaq rfl ?_|fail)
    all_goals first
      | rfl
      | (exfalso; omega)
      | trace_state
  rw [decide_eq_true ho] at c3
  by_cases hz : hasAllT (rows.getD 0 []) j.notl
  rotate_left
  · rw [if_pos (fun q => hz q.2.2)]
    rw [decide_eq_false hz] at c4
    dsimp only
    refine zax Tryz.func9 rfl Tryz.ntmps9 Tryz.results9 rfl rfl fun X hL hX => ?_
    repeat' (first |refine zae (f := 29) rfl rfl Tryz.call29 rfl c1 ?_|refine zae (f := 30) rfl rfl Tryz.call30 rfl c2 ?_|refine zaw (f := 31) rfl rfl rfl rfl Tryz.call31 rfl c3 ?_|refine zaw (f := 31) rfl rfl rfl rfl Tryz.call31 rfl c4 ?_|with_reducible (first |refine zah ?_|refine zaa ?_|refine zag ?_|refine zad ?_|refine zan ?_|refine zai ?_|refine zaf ?_|refine zam ?_|refine zaz ?_|refine zaC ?_)|refine zab rfl rfl True.intro ?_|refine zaj rfl rfl rfl rfl True.intro ?_|refine zau rfl ?_|refine zal rfl ?_|((first |refine zaT rfl rfl ?_ ?_)<;>intro<;>try (first |contradiction))|((first |refine zab rfl rfl ?_ ?_|refine zaj rfl rfl rfl rfl ?_ ?_|refine zav rfl rfl ?_ ?_);focus (first |omega|exact le_ rfl|((repeat' refine And.intro ?_ ?_)<;>omega)|((repeat' refine And.intro ?_ ?_)<;>first |rfl)))|with_reducible refine ⟨by kernel_rfl, ?_⟩|refine zaq rfl ?_|fail)
    all_goals first
      | rfl
      | (exfalso; omega)
      | trace_state
  rw [decide_eq_true hz] at c4
  rw [if_neg (fun q => q ⟨hk, ho, hz⟩)] at hb ⊢
  by_cases hq : rightN (rows.getD 0 [])
  · rw [if_neg (fun q => q hq)] at hb
    exact absurd rfl hb
  rw [if_pos hq]
  rw [decide_eq_false hq] at c5
  dsimp only
  refine zax Tryz.func9 rfl Tryz.ntmps9 Tryz.results9 rfl rfl fun X hL hX => ?_
  repeat' (first |refine zae (f := 29) rfl rfl Tryz.call29 rfl c1 ?_|refine zae (f := 30) rfl rfl Tryz.call30 rfl c2 ?_|refine zaw (f := 31) rfl rfl rfl rfl Tryz.call31 rfl c3 ?_|refine zaw (f := 31) rfl rfl rfl rfl Tryz.call31 rfl c4 ?_|refine zae (f := 32) rfl rfl Tryz.call32 rfl c5 ?_|with_reducible (first |refine zah ?_|refine zaa ?_|refine zag ?_|refine zad ?_|refine zan ?_|refine zai ?_|refine zaf ?_|refine zam ?_|refine zaz ?_|refine zaC ?_)|refine zab rfl rfl True.intro ?_|refine zaj rfl rfl rfl rfl True.intro ?_|refine zau rfl ?_|refine zal rfl ?_|((first |refine zaT rfl rfl ?_ ?_)<;>intro<;>try (first |contradiction))|((first |refine zab rfl rfl ?_ ?_|refine zaj rfl rfl rfl rfl ?_ ?_|refine zav rfl rfl ?_ ?_);focus (first |omega|exact le_ rfl|((repeat' refine And.intro ?_ ?_)<;>omega)|((repeat' refine And.intro ?_ ?_)<;>first |rfl)))|with_reducible refine ⟨by kernel_rfl, ?_⟩|refine zaq rfl ?_|fail)
  all_goals first
    | rfl
    | (exfalso; omega)
    | trace_state

section
variable {P : Program} {X : Ctx} {n : Nat} {o : Oper} {fr : Fr} {ow : Ow} {k k' : Nat} {ty ty2 : TypeId} {x y : Operand} {cs cs' : List D}
end
section
variable {X : Ctx} {n : Nat} {all rest : List Oper} {fr : Fr} {ow : Ow} {tr : List (List Nat × List Nat)} {K : Fr → Ow → List (List Nat × List Nat) → Prop}
variable {t k : Nat} {ty ty' : TypeId} {ps : String} {af : Array Edge} {x y : Operand} {cs : List D} {d : D} {off : Nat} {z : Nat × Bool}
end
section
variable {P : Program} {X : Ctx} {n : Nat} {fr : Fr} {ow : Ow} {d : D}
end
theorem zjO {α : Type} {k : Nat} : ∀ {a b : List (Nat × α)}, look k (a ++ b) = match look k a with
    | some o => some o
    | none => look k b
  | [], b => rfl
  | (u, e) :: a, b => by
    simp only [List.cons_append, look]
    cases Nat.beq u k with
    | true => rfl
    | false => exact zjO
theorem zro {lo ow : Ow} (hnd : (lo.map (·.1)).Nodup) : fO (lo ++ ow) = updO (fO ow) lo := by
  funext k
  rw [zbw hnd]
  show look k (lo ++ ow) = _
  rw [zjO]
  cases look k lo <;> rfl
section
variable {X : Ctx} {n : Nat} {all rest : List Oper} {fr : Fr} {ow : Ow} {tr : List (List Nat × List Nat)} {K : Fr → Ow → List (List Nat × List Nat) → Prop}
variable {t k k' : Nat} {op : Op} {ty ty2 ty' : TypeId} {ps : String} {af : Array Edge} {x y : Operand} {cs cs' : List D} {d : D} {f : FuncId} {args : List D} {g u : Nat} {want : Bool}
end
end Go.Proofs.YtkkaamhocpmhkaaGreatDoor.Flow

namespace Go.Proofs.YtkkaamhocpmhkaaGreatDoor.Flow
def pchain (pv : Value) : List PanicEntry := [{ v := pv, recovered := false }]
def CtrP (P : Program) (f : FuncId) (args : List D) (ow : Ow) (pv : Value) (ow' : Ow) : Prop :=
  ∀ (X : Ctx) (vs : Array Value), X.ids = ow.map (·.1) → Hist X X.w0 X.S0 → Inv X X.w0 X.S0 X.r0 (fO ow) → vs.size = args.length → (∀ j, j < args.length → Rel X.S0 X.w0 X.r0 (args.getD j .any) (vs.getD j undef)) →
    Calls P f vs X.w0 fun e w' => ∃ S' r', e = .panicked (pchain pv) ∧ Hist X w' S' ∧ Inv X w' S' r' (fO ow') ∧ RhoLe X.r0 r'
section
variable {P : Program} {X : Ctx} {n : Nat} {fr : Fr} {ow : Ow} {d : D} {Q : Exit → Fr → Ow → Prop}
theorem CtrP.of0 {f : FuncId} {args : List D} {ow ow' : Ow} {pv : Value}
    (h : ∀ (X : Ctx) (vs : Array Value), X.dfs = [] → X.ids = ow.map (·.1) → Hist X X.w0 X.S0 → Inv X X.w0 X.S0 X.r0 (fO ow) → vs.size = args.length → (∀ j, j < args.length → Rel X.S0 X.w0 X.r0 (args.getD j .any) (vs.getD j undef)) →
      Calls P f vs X.w0 fun e w' => ∃ S' r', e = .panicked (pchain pv) ∧ Hist X w' S' ∧ Inv X w' S' r' (fO ow') ∧ RhoLe X.r0 r') : CtrP P f args ow pv ow' := fun X vs hids hH hI hn hr =>
  (h { X with dfs := [] } vs rfl hids (hH.re []) (hI.re []) hn hr).mono fun _ _ ⟨S', r', h1, h3, h4, h5⟩ => ⟨S', r', h1, h3.un, h4.un, h5⟩
end
section
variable {X : Ctx} {n : Nat} {all rest : List Oper} {fr : Fr} {ow : Ow} {Q : Exit → Fr → Ow → Prop}
variable {t : Nat} {op : Op} {ty : TypeId} {pos : String} {af : Array Edge} {d : D} {f : FuncId} {args : List D} {pv : Value} {dst : Option Tmp}
def Pnc (pv : Value) (Q : Exit → Fr → Ow → Prop) (fr : Fr) (ow : Ow) : Prop := Q (.panic (pchain pv)) fr ow
end
attribute [irreducible] Pnc
end Go.Proofs.YtkkaamhocpmhkaaGreatDoor.Flow

namespace Go.Proofs.YtkkaamhocpmhkaaGreatDoor.Flow
section
variable {P : Program} {X : Ctx} {n : Nat}
variable {fr : Fr} {ow : Ow} {Q : Exit → Fr → Ow → Prop}
end
section
variable {X : Ctx} {n : Nat} {all post : List Oper} {fr : Fr} {ow ow0 : Ow} {Q : Exit → Fr → Ow → Prop} {tr : List (List Nat × List Nat)}
variable {t p : Nat} {op : Op} {ty : TypeId} {pos : String} {af : Array Edge} {f : FuncId} {args : List D} {pv : Value}
end
end Go.Proofs.YtkkaamhocpmhkaaGreatDoor.Flow

namespace Go.Proofs.YtkkaamhocpmhkaaGreatDoor.Flow
section
variable {P : Program} {X : Ctx} {n : Nat} {o : Oper} {fr : Fr} {ow : Ow} {T : TypeId} {x : Operand} {k1 k2 : IntKind} {a b : Int} {fs : Array Field}
end
section
variable {X : Ctx} {n : Nat} {all rest : List Oper} {fr : Fr} {ow : Ow} {tr : List (List Nat × List Nat)} {K : Fr → Ow → List (List Nat × List Nat) → Prop} {Q : Exit → Fr → Ow → Prop}
variable {t : Nat} {ty T : TypeId} {ps : String} {af : Array Edge} {x : Operand} {k1 k2 : IntKind} {a b : Int} {fs : Array Field} {pv : Value} {tt : TypeId}
end
section
variable {n : Nat} {fr : Fr} {ow : Ow} {pv : Value} {f : FuncId} {args : List D}
end
end Go.Proofs.YtkkaamhocpmhkaaGreatDoor.Flow
