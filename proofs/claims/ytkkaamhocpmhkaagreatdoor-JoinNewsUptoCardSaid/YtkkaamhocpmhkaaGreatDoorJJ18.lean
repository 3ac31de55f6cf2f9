/- The texts H3, H4, H7, H5, H6, one behind the other. -/
import Derived.Test.YtkkaamhocpmhkaaGreatDoorJJ8
import Derived.Test.YtkkaamhocpmhkaaGreatDoorJJ10
import Derived.Test.YtkkaamhocpmhkaaGreatDoorJJ17
namespace Go.Proofs.YtkkaamhocpmhkaaGreatDoor.Flow
open Go
theorem zeJ (key k : List UInt8) (d : D) : ∀ es : Ents, mget key (mput k d es) = if key = k then some d else mget key es
  | [] => by
    rw [mput, mget, mget]
    by_cases h : key = k
    · rw [if_pos h, if_pos h.symm]
    · rw [if_neg h, if_neg fun q => h q.symm, mget]
  | p :: r => by
    have ih := zeJ key k d r
    rw [mput]
    by_cases hp : p.1 = k
    · rw [if_pos hp, mget, mget]
      by_cases h : key = k
      · rw [if_pos h, if_pos h.symm]
      · rw [if_neg h, if_neg fun q => h q.symm, if_neg fun q => h (q.symm.trans hp)]
    · rw [if_neg hp, mget, mget, ih]
      by_cases h : p.1 = key
      · rw [if_pos h, if_pos h, if_neg fun q => hp (h.trans q)]
      · rw [if_neg h, if_neg h]
theorem zcD (n : List UInt8) : ∀ l : List (List UInt8), -1 ≤ Csv.idxI n l ∧ Csv.idxI n l < l.length
  | [] => by
    rw [Csv.idxI]
    exact ⟨by omega, by simp⟩
  | a :: r => by
    have := zcD n r
    rw [Csv.idxI]
    simp only [List.length_cons]
    split
    · omega
    · split <;> omega
theorem zjT (n a : List UInt8) : ∀ l : List (List UInt8), Csv.idxI n (l ++ [a]) = if 0 ≤ Csv.idxI n l then Csv.idxI n l else if a = n then (l.length : Int) else -1
  | [] => by
    have e : Csv.idxI n [] = -1 := rfl
    have e2 : Csv.idxI n [a] = if a = n then 0 else if Csv.idxI n [] < 0 then -1 else Csv.idxI n [] + 1 := rfl
    rw [List.nil_append, e2, e, if_neg (show ¬ (0 : Int) ≤ -1 by decide)]
    rfl
  | b :: r => by
    have ih := zjT n a r
    have hl := zcD n r
    rw [List.cons_append, Csv.idxI, Csv.idxI, ih]
    generalize Csv.idxI n r = q at *
    simp only [List.length_cons]
    by_cases hb : b = n
    · rw [if_pos hb, if_pos hb, if_pos (Int.le_refl _)]
    · rw [if_neg hb, if_neg hb]
      repeat' split
      all_goals first
        | rfl
        | omega
theorem zbO (n : List UInt8) : ∀ l : List (List UInt8), 0 ≤ Csv.idxI n l ↔ n ∈ l
  | [] => by
    rw [Csv.idxI]
    exact ⟨fun h => absurd h (by decide), fun h => (List.not_mem_nil h).elim⟩
  | a :: r => by
    have ih := zbO n r
    rw [Csv.idxI, List.mem_cons]
    by_cases ha : a = n
    · rw [if_pos ha]
      exact ⟨fun _ => .inl ha.symm, fun _ => Int.le_refl _⟩
    · rw [if_neg ha]
      by_cases h0 : Csv.idxI n r < 0
      · rw [if_pos h0]
        exact ⟨fun h => absurd h (by decide), fun h => by have := ih.2 (h.resolve_left fun q => ha q.symm); omega⟩
      · rw [if_neg h0]
        exact ⟨fun _ => .inr (ih.1 (by omega)), fun _ => by omega⟩
theorem zmh (n : List UInt8) : ∀ l : List (List UInt8), 0 ≤ Csv.idxI n l → l.getD (Csv.idxI n l).toNat [] = n
  | [], h => by
    rw [Csv.idxI] at h
    exact absurd h (by decide)
  | a :: r, h => by
    rw [Csv.idxI] at h ⊢
    by_cases ha : a = n
    · rw [if_pos ha]
      exact ha
    · rw [if_neg ha] at h ⊢
      by_cases h0 : Csv.idxI n r < 0
      · rw [if_pos h0] at h
        exact absurd h (by decide)
      · rw [if_neg h0]
        have := zmh n r (by omega)
        rw [show (Csv.idxI n r + 1).toNat = (Csv.idxI n r).toNat + 1 by omega, List.getD_cons_succ]
        exact this
theorem zka (n : List UInt8) : ∀ (l : List (List UInt8)) (i : Nat), (i : Int) < Csv.idxI n l → ¬ l.getD i [] = n
  | [], i, h => by
    rw [Csv.idxI] at h
    omega
  | a :: r, i, h => by
    rw [Csv.idxI] at h
    by_cases ha : a = n
    · rw [if_pos ha] at h
      omega
    · rw [if_neg ha] at h
      by_cases h0 : Csv.idxI n r < 0
      · rw [if_pos h0] at h
        omega
      · rw [if_neg h0] at h
        match i with
        | 0 => exact ha
        | i + 1 =>
          rw [List.getD_cons_succ]
          exact zka n r i (by omega)
def firstE (ks : List (List UInt8)) : Nat → Ents
  | 0 => []
  | i + 1 => match mget (ks.getD i []) (firstE ks i) with
    | some _ => firstE ks i
    | none => mput (ks.getD i []) (.i .i64 (i : Int)) (firstE ks i)
theorem zdp (ks : List (List UInt8)) (key : List UInt8) : ∀ i, i ≤ ks.length → mget key (firstE ks i) = if Csv.idxI key (ks.take i) < 0 then none else some (.i .i64 (Csv.idxI key (ks.take i)))
  | 0, _ => by
    rw [List.take_zero, Csv.idxI]
    rfl
  | i + 1, h => by
    have ih := zdp ks key i (by omega)
    have ih2 := zdp ks (ks.getD i []) i (by omega)
    have hl := zcD key (ks.take i)
    have ht := zcI (ks := ks) (i := i) (by omega)
    have hm : (ks.take i).length = i := by
      rw [List.length_take]
      exact Nat.min_eq_left (by omega)
    rw [ht, zjT, hm, firstE]
    by_cases hk : key = ks.getD i []
    · subst hk
      generalize Csv.idxI (ks.getD i []) (ks.take i) = q at *
      by_cases h0 : q < 0
      · rw [if_pos h0] at ih2
        rw [ih2]
        dsimp only
        rw [zeJ, if_pos rfl, if_neg (show ¬ 0 ≤ q by omega), if_pos rfl, if_neg (by omega)]
      · rw [if_neg h0] at ih2
        rw [ih2]
        dsimp only
        rw [ih2, if_pos (show 0 ≤ q by omega), if_neg h0]
    · have e : mget key (match mget (ks.getD i []) (firstE ks i) with
          | some _ => firstE ks i
          | none => mput (ks.getD i []) (.i .i64 (i : Int)) (firstE ks i)) = mget key (firstE ks i) := by
        split
        · rfl
        · rw [zeJ, if_neg hk]
      rw [e, ih]
      generalize Csv.idxI key (ks.take i) = q at *
      by_cases h0 : q < 0
      · rw [if_pos h0, if_neg (show ¬ 0 ≤ q by omega), if_neg (show ¬ ks.getD i [] = key from fun p => hk p.symm)]
        rfl
      · rw [if_neg h0, if_pos (show 0 ≤ q by omega), if_neg h0]
theorem okFirst (ls : List Nat) (ks : List (List UInt8)) (i : Nat) : (Own.mp (firstE ks i)).okIn ls = true := by
  have hput : ∀ (k : List UInt8) (n : Int) (es : Ents), es.all (fun p => p.2.okIn ls) = true → (mput k (.i .i64 n) es).all (fun p => p.2.okIn ls) = true := fun k n es => by
    induction es with
    | nil => exact fun _ => rfl
    | cons p r ih =>
      intro h
      rw [List.all_cons, Bool.and_eq_true] at h
      rw [mput]
      split
      · rw [List.all_cons, Bool.and_eq_true]
        exact ⟨rfl, h.2⟩
      · rw [List.all_cons, Bool.and_eq_true]
        exact ⟨h.1, ih h.2⟩
  show (firstE ks i).all (fun p => p.2.okIn ls) = true
  induction i with
  | zero => rfl
  | succ i ih =>
    rw [firstE]
    split
    · exact ih
    · exact hput _ _ _ ih

abbrev vlC (v : Vl3) : List D := [.i .i64 v.1, .s v.2.1, .i .u64 v.2.2]
def atrP (p : AtR) : List D := [.s p.1, .i .i64 p.2.1, .s p.2.2.1, .i .u64 p.2.2.2]
def atrF (l : List AtR) : Nat → List D := fun i => [.s (l.getD i ([], v03)).1, .i .i64 (l.getD i ([], v03)).2.1, .s (l.getD i ([], v03)).2.2.1, .i .u64 (l.getD i ([], v03)).2.2.2]
theorem zhF (k : List UInt8) (b : List AtR) : ∀ a : List AtR, lastA k (a ++ b) = match lastA k b with
    | some v => some v
    | none => lastA k a
  | [] => by
    rw [List.nil_append, lastA]
    cases lastA k b <;> rfl
  | p :: r => by
    rw [List.cons_append, lastA, zhF k b r, lastA]
    cases lastA k b <;> rfl
theorem zje {l : List AtR} {i : Nat} (h : i < l.length) : l.drop i = l.getD i ([], v03) :: l.drop (i + 1) := by
  rw [List.drop_eq_getElem_cons h]
  simp [List.getD_eq_getElem?_getD, h]
theorem zmB {l : List AtR} {k : List UInt8} {i : Nat} (h : i < l.length) (h0 : lastA k (l.drop (i + 1)) = none) (hk : (l.getD i ([], v03)).1 = k) : lastA k l = some (l.getD i ([], v03)).2 := by
  have e := zhF k (l.drop i) (l.take i)
  rw [List.take_append_drop, zje h, lastA, h0] at e
  dsimp only at e
  rw [if_pos hk] at e
  exact e
theorem zkR {l : List AtR} {k : List UInt8} {i : Nat} (h : i < l.length) (h0 : lastA k (l.drop (i + 1)) = none) (hk : ¬ (l.getD i ([], v03)).1 = k) : lastA k (l.drop i) = none := by
  rw [zje h, lastA, h0]
  exact if_neg hk
abbrev lastD (o : Option Vl3) : D := .tu [.ag (vlC (o.getD v03)), .b o.isSome]
set_option maxHeartbeats 4000000 in
theorem zfy (l : List AtR) (key : List UInt8) (hl : l.length ≤ 4194304) : Ctr Tryz.prog 47 [.sl 4 l.length (atrF l), .s key] (lastD (lastA key l)) := by
  refine zax Tryz.func47 rfl Tryz.ntmps47 Tryz.results47 rfl rfl fun X hL hX => ?_
  repeat' (first |with_reducible (first |refine zah ?_|refine zaa ?_|refine zag ?_|refine zad ?_|refine zaf ?_)|refine zab rfl rfl True.intro ?_|((first |refine zab rfl rfl ?_ ?_|refine zav rfl rfl ?_ ?_);focus (first |omega|((repeat' refine And.intro ?_ ?_)<;>omega)|((repeat' refine And.intro ?_ ?_)<;>first |rfl)))|fail)
  refine T.loop hL (fun k : Nat => [(0, .sl 4 l.length (atrF l)), (1, .s key), (4, .pv 4 0), (5, .b false), (6, .i .i64 ((k : Int) - 1))]) (fun _ => [(4, .var (vlC v03))])
    (fun k => k ≤ l.length ∧ lastA key (l.drop k) = none) (fun k => k) l.length ⟨Nat.le_refl _, by rw [List.drop_length]; rfl⟩
    ⟨⟨rfl, rfl, rfl, rfl, rfl, trivial⟩, ⟨rfl, trivial⟩, rfl, by rw [hX]; simp⟩ ?_
  rintro k ⟨h1, h2⟩
  try dsimp only at h1 h2 ⊢
  by_cases h0 : k = 0
  · subst h0
    rw [List.drop_zero] at h2
    rw [h2]
    repeat' (first |with_reducible (first |refine zah ?_|refine zaa ?_|refine zag ?_|refine zad ?_|refine zan ?_|refine zat ?_|refine zas ?_)|refine zab rfl rfl True.intro ?_|refine zal rfl ?_|((first |refine zaH rfl ?_ ?_);focus (first |((repeat' refine And.intro ?_ ?_)<;>omega)|((repeat' refine And.intro ?_ ?_)<;>first |rfl|exact Nat.le_refl _)))|refine zaB rfl ?_|refine zaq rfl ?_|fail)
    all_goals first
      | rfl
      | (exfalso; omega)
      | trace_state
  obtain ⟨i, rfl⟩ : ∃ i, k = i + 1 := ⟨k - 1, by omega⟩
  have hi : i < l.length := by omega
  have hnat : ((i + 1 : Nat) - 1 : Int).toNat = i := by omega
  have hge : ((i + 1 : Nat) : Int) - 1 ≥ 0 := by omega
  have hlt : ((i + 1 : Nat) : Int) - 1 < l.length := by omega
  by_cases hk : (l.getD i ([], v03)).1 = key
  · rw [zmB hi h2 hk]
    have hk' : (l.getD (((i + 1 : Nat) : Int) - 1).toNat ([], v03)).1 = key := by rw [hnat]; exact hk
    repeat' (first |with_reducible (first |refine zah ?_|refine zaa ?_|refine zag ?_|refine zad ?_|refine zan ?_|refine zai ?_|refine zaf ?_|refine zam ?_|refine zaz ?_)|refine zab rfl rfl True.intro ?_|((first |refine zac rfl ?_ ?_|refine zaQ rfl ?_ ?_)<;>intro<;>try (first |contradiction))|((first |refine zab rfl rfl ?_ ?_|refine zaH rfl ?_ ?_);focus (first |omega|exact le_ rfl|((repeat' refine And.intro ?_ ?_)<;>omega)|((repeat' refine And.intro ?_ ?_)<;>first |rfl|exact Nat.le_refl _)))|refine zaq rfl ?_|fail)
    all_goals first
      | (rw [hnat]; rfl)
      | rfl
      | (exfalso; omega)
      | trace_state
  · have h3 := zkR hi h2 hk
    have hk' : ¬ (l.getD (((i + 1 : Nat) : Int) - 1).toNat ([], v03)).1 = key := by rw [hnat]; exact hk
    repeat' (first |with_reducible (first |refine zah ?_|refine zaa ?_|refine zag ?_|refine zad ?_|refine zai ?_|refine zaf ?_|refine zao ?_)|refine zab rfl rfl True.intro ?_|((first |refine zac rfl ?_ ?_|refine zaQ rfl ?_ ?_)<;>intro<;>try (first |contradiction))|((first |refine zab rfl rfl ?_ ?_);focus (first |omega|exact le_ rfl|((repeat' refine And.intro ?_ ?_)<;>omega)))|fail)
    all_goals first
      | exact ⟨i, ⟨by omega, h3⟩, by omega, ⟨rfl, rfl, rfl, rfl, congrArg (D.i .i64) (by omega), trivial⟩, ⟨rfl, trivial⟩, rfl, by rw [hX]; simp⟩
      | (exfalso; omega)
      | trace_state

def plainV (v : Vl3) : Vl3 := if v.1 = 1 then (1, v.2.1, 0) else (v.1, [], v.2.2)
set_option maxHeartbeats 4000000 in
theorem zkW (v : Vl3) : Ctr Tryz.prog 76 [.ag (vlC v)] (.ag (vlC (plainV v))) := by
  unfold plainV
  refine zax Tryz.func76 rfl Tryz.ntmps76 Tryz.results76 rfl rfl fun X hL hX => ?_
  by_cases h : v.1 = 1
  · rw [if_pos h]
    repeat' (first |with_reducible (first |refine zah ?_|refine zaa ?_|refine zag ?_|refine zad ?_|refine zan ?_|refine zam ?_)|refine zab rfl rfl True.intro ?_|((first |refine zac rfl ?_ ?_)<;>intro<;>try (first |contradiction))|((first |refine zab rfl rfl ?_ ?_|refine zav rfl rfl ?_ ?_|refine zaH rfl ?_ ?_);focus (first |exact le_ rfl|((repeat' refine And.intro ?_ ?_)<;>omega)|((repeat' refine And.intro ?_ ?_)<;>first |rfl|exact Nat.le_refl _)))|refine zaq rfl ?_|fail)
    all_goals first
      | rfl
      | (exfalso; omega)
      | trace_state
  · rw [if_neg h]
    repeat' (first |with_reducible (first |refine zah ?_|refine zaa ?_|refine zag ?_|refine zad ?_|refine zan ?_|refine zai ?_)|refine zab rfl rfl True.intro ?_|((first |refine zac rfl ?_ ?_)<;>intro<;>try (first |contradiction))|((first |refine zab rfl rfl ?_ ?_|refine zav rfl rfl ?_ ?_|refine zaH rfl ?_ ?_);focus (first |exact le_ rfl|((repeat' refine And.intro ?_ ?_)<;>omega)|((repeat' refine And.intro ?_ ?_)<;>first |rfl|exact Nat.le_refl _)))|refine zaq rfl ?_|fail)
    all_goals first
      | rfl
      | (exfalso; omega)
      | trace_state
set_option maxHeartbeats 4000000 in
theorem zmo (v : Vl3) : Ctr Tryz.prog 41 [.ag (vlC v), .ag (vlC v)] (.b true) := by
  have c := zkW v
  refine zax Tryz.func41 rfl Tryz.ntmps41 Tryz.results41 rfl rfl fun X hL hX => ?_
  generalize plainV v = p at c
  repeat' (first |refine zae (f := 76) rfl rfl Tryz.call76 rfl c ?_|with_reducible (first |refine zah ?_|refine zaa ?_|refine zag ?_|refine zad ?_|refine zan ?_|refine zaC ?_)|refine zab rfl rfl True.intro ?_|((first |refine zab rfl rfl ?_ ?_|refine zav rfl rfl ?_ ?_);focus (first |exact le_ rfl|((repeat' refine And.intro ?_ ?_)<;>omega)|((repeat' refine And.intro ?_ ?_)<;>first |rfl)))|with_reducible refine ⟨by kernel_rfl, ?_⟩|refine zaq rfl ?_|fail)
  all_goals first
    | (refine congrArg D.b ?_; simp; done)
    | trace_state
set_option maxHeartbeats 4000000 in
theorem zdk (a : List AtR) (ha : a.length ≤ 4194304) : Ctr Tryz.prog 12 [.sl 4 a.length (atrF a), .sl 4 a.length (atrF a)] (.b true) := by
  refine zax Tryz.func12 rfl Tryz.ntmps12 Tryz.results12 rfl rfl fun X hL hX => ?_
  repeat' (first |with_reducible (first |refine zah ?_|refine zaa ?_|refine zag ?_|refine zad ?_|refine zai ?_|refine zaf ?_)|refine zab rfl rfl True.intro ?_|((first |refine zaR rfl ?_ ?_)<;>intro<;>try (first |contradiction))|fail)
  all_goals try (exfalso; omega)
  refine T.loop hL (fun i : Nat => [(0, .sl 4 a.length (atrF a)), (1, .sl 4 a.length (atrF a)), (5, .i .i64 i)]) (fun _ => [])
    (fun i => i ≤ a.length) (fun i => a.length - i) 0 (Nat.zero_le _)
    ⟨⟨rfl, rfl, rfl, trivial⟩, trivial, rfl, by rw [hX]; simp⟩ ?_
  rintro i h1
  try dsimp only at h1 ⊢
  have c := zmo (a.getD (i : Int).toNat ([], v03)).2
  by_cases hi : i < a.length
  · have hi' : (i : Int) < a.length := by omega
    repeat' (first |refine zaw (f := 41) rfl rfl rfl rfl Tryz.call41 rfl c ?_|with_reducible (first |refine zah ?_|refine zaa ?_|refine zag ?_|refine zad ?_|refine zan ?_|refine zai ?_|refine zaf ?_|refine zao ?_|refine zam ?_|refine zaz ?_|refine zaC ?_)|refine zab rfl rfl True.intro ?_|refine zap rfl rfl rfl ?_|refine zaj rfl rfl rfl rfl True.intro ?_|refine zau rfl ?_|refine zal rfl ?_|((first |refine zac rfl ?_ ?_|refine zaT rfl rfl ?_ ?_)<;>intro<;>try (first |contradiction))|((first |refine zab rfl rfl ?_ ?_|refine zaj rfl rfl rfl rfl ?_ ?_);focus (first |omega|exact le_ rfl|((repeat' refine And.intro ?_ ?_)<;>omega)))|with_reducible refine ⟨by kernel_rfl, ?_⟩|refine zaq rfl ?_|fail)
    all_goals first
      | exact ⟨i + 1, by omega, by omega, ⟨rfl, rfl, rfl, trivial⟩, trivial, rfl, by rw [hX]; simp⟩
      | (exfalso; omega)
      | (exfalso; simp_all; done)
      | trace_state
  · have hi' : ¬ (i : Int) < a.length := by omega
    repeat' (first |with_reducible (first |refine zah ?_|refine zaa ?_|refine zag ?_|refine zad ?_|refine zan ?_|refine zat ?_|refine zas ?_)|refine zab rfl rfl True.intro ?_|((first |refine zac rfl ?_ ?_)<;>intro<;>try (first |contradiction))|refine zaB rfl ?_|refine zaq rfl ?_|fail)
    all_goals first
      | rfl
      | (exfalso; omega)
      | trace_state
def bigA (p : AtR) : Bool := decide (100 < p.1.length + p.2.2.1.length)
def muchJ (s : Tx) (j : JnR) (l : List AtR) : Bool := decide (600 < s.length ∨ 20 < j.only.length ∨ 20 < j.notl.length ∨ 40 < l.length) || l.any bigA
theorem zqI {l : List AtR} {i : Nat} (h : i < l.length) (hb : bigA (l.getD i ([], v03)) = true) : l.any bigA = true := by
  rw [List.any_eq_true]
  refine ⟨l.getD i ([], v03), ?_, hb⟩
  rw [show l.getD i ([], v03) = l[i] by simp [List.getD_eq_getElem?_getD, h]]
  exact List.getElem_mem h
theorem zrp {l : List AtR} (h : ∀ i, i < l.length → bigA (l.getD i ([], v03)) = false) : l.any bigA = false := by
  rw [List.any_eq_false]
  intro x hx
  obtain ⟨i, hi, rfl⟩ := List.mem_iff_getElem.1 hx
  have := h i hi
  rw [show l.getD i ([], v03) = l[i] by simp [List.getD_eq_getElem?_getD, hi]] at this
  rw [this]
  exact Bool.false_ne_true
set_option maxRecDepth 100000 in
set_option maxHeartbeats 8000000 in
theorem zdi (s : Tx) (j : JnR) (l : List AtR) (hs : s.length ≤ 4194304) (h1 : j.only.length ≤ 4194304) (h2 : j.notl.length ≤ 4194304) (hl : l.length ≤ 4194304)
    (hb : ∀ i, (l.getD i ([], v03)).1.length ≤ 4194304 ∧ (l.getD i ([], v03)).2.2.1.length ≤ 4194304) :
    Ctr Tryz.prog 7 [.s s, .ag (jnP j), .sl 4 l.length (atrF l)] (.b (muchJ s j l)) := by
  refine zax Tryz.func7 rfl Tryz.ntmps7 Tryz.results7 rfl rfl fun X hL hX => ?_
  unfold muchJ
  by_cases hm : 600 < s.length ∨ 20 < j.only.length ∨ 20 < j.notl.length ∨ 40 < l.length
  · rw [decide_eq_true hm, Bool.true_or]
    repeat' (first |with_reducible (first |refine zah ?_|refine zaa ?_|refine zag ?_|refine zad ?_|refine zan ?_|refine zam ?_)|refine zab rfl rfl True.intro ?_|refine zap rfl rfl rfl ?_|refine zaj rfl rfl rfl rfl True.intro ?_|refine zau rfl ?_|((first |refine zac rfl ?_ ?_|refine zak rfl rfl ?_ ?_)<;>intro<;>try (first |(exfalso;omega)))|((first |refine zaj rfl rfl rfl rfl ?_ ?_|refine zav rfl rfl ?_ ?_);focus (first |exact le_ rfl|((repeat' refine And.intro ?_ ?_)<;>omega)|((repeat' refine And.intro ?_ ?_)<;>first |rfl)))|refine zaq rfl ?_|fail)
    all_goals first
      | rfl
      | (exfalso; omega)
      | trace_state
  rw [decide_eq_false hm, Bool.false_or]
  have m1 : ¬ (s.length : Int) > 600 := by omega
  have m2 : ¬ (j.only.length : Int) > 20 := by omega
  have m3 : ¬ (j.notl.length : Int) > 20 := by omega
  have m4 : ¬ (l.length : Int) > 40 := by omega
  repeat' (first |with_reducible (first |refine zah ?_|refine zaa ?_|refine zag ?_|refine zad ?_|refine zai ?_|refine zaf ?_)|refine zab rfl rfl True.intro ?_|refine zaj rfl rfl rfl rfl True.intro ?_|((first |refine zac rfl ?_ ?_|refine zak rfl rfl ?_ ?_)<;>intro<;>try (first |contradiction))|((first |refine zaj rfl rfl rfl rfl ?_ ?_|refine zav rfl rfl ?_ ?_);focus (first |exact le_ rfl|((repeat' refine And.intro ?_ ?_)<;>omega)|((repeat' refine And.intro ?_ ?_)<;>first |rfl)))|fail)
  all_goals try (exfalso; omega)
  refine T.loop hL (fun i : Nat => [(2, .sl 4 l.length (atrF l)), (7, .i .i64 i)]) (fun _ => [])
    (fun i => i ≤ l.length ∧ ∀ k, k < i → bigA (l.getD k ([], v03)) = false) (fun i => l.length - i) 0 ⟨Nat.zero_le _, fun k hk => absurd hk (Nat.not_lt_zero _)⟩
    ⟨⟨rfl, rfl, trivial⟩, trivial, rfl, by rw [hX]; simp⟩ ?_
  clear hm m1 m2 m3 m4 hs h1 h2
  rintro i ⟨g1, g2⟩
  try dsimp only at g1 g2 ⊢
  have hnat : (i : Int).toNat = i := Int.toNat_natCast i
  by_cases hi : i < l.length
  rotate_left
  · have hi' : ¬ (i : Int) < l.length := by omega
    rw [zrp fun k hk => g2 k (by omega)]
    repeat' (first |with_reducible (first |refine zah ?_|refine zaa ?_|refine zag ?_|refine zad ?_|refine zan ?_|refine zat ?_|refine zas ?_)|refine zab rfl rfl True.intro ?_|((first |refine zac rfl ?_ ?_)<;>intro<;>try (first |contradiction))|refine zaB rfl ?_|refine zaq rfl ?_|fail)
    all_goals first
      | rfl
      | (exfalso; omega)
      | trace_state
  have hi' : (i : Int) < l.length := by omega
  obtain ⟨hb1, hb2⟩ := hb (i : Int).toNat
  cases hq : bigA (l.getD i ([], v03)) with
  | true =>
    rw [zqI hi hq]
    have hq := of_decide_eq_true hq
    rw [← hnat] at hq
    have hq' : ((l.getD (i : Int).toNat ([], v03)).1.length : Int) + (l.getD (i : Int).toNat ([], v03)).2.2.1.length > 100 := by omega
    repeat' (first |with_reducible (first |refine zah ?_|refine zaa ?_|refine zag ?_|refine zad ?_|refine zan ?_|refine zai ?_|refine zaf ?_|refine zam ?_|refine zaz ?_|refine zaC ?_)|refine zab rfl rfl True.intro ?_|((first |refine zac rfl ?_ ?_)<;>intro<;>try (first |contradiction))|((first |refine zab rfl rfl ?_ ?_);focus (first |omega|exact le_ rfl|((repeat' refine And.intro ?_ ?_)<;>omega)))|with_reducible refine ⟨by kernel_rfl, ?_⟩|refine zaq rfl ?_|fail)
    all_goals first
      | rfl
      | (exfalso; omega)
      | trace_state
  | false =>
    have g3 : ∀ k, k < i + 1 → bigA (l.getD k ([], v03)) = false := fun k hk => by
      by_cases e : k = i
      · rw [e]
        exact hq
      · exact g2 k (by omega)
    have hq := of_decide_eq_false hq
    rw [← hnat] at hq
    have hq' : ¬ ((l.getD (i : Int).toNat ([], v03)).1.length : Int) + (l.getD (i : Int).toNat ([], v03)).2.2.1.length > 100 := by omega
    repeat' (first |with_reducible (first |refine zah ?_|refine zaa ?_|refine zag ?_|refine zad ?_|refine zai ?_|refine zaf ?_|refine zao ?_|refine zaC ?_)|refine zab rfl rfl True.intro ?_|((first |refine zac rfl ?_ ?_)<;>intro<;>try (first |contradiction))|((first |refine zab rfl rfl ?_ ?_);focus (first |omega|exact le_ rfl|((repeat' refine And.intro ?_ ?_)<;>omega)))|with_reducible refine ⟨by kernel_rfl, ?_⟩|fail)
    all_goals first
      | exact ⟨i + 1, ⟨by omega, g3⟩, by omega, ⟨rfl, rfl, trivial⟩, trivial, rfl, by rw [hX]; simp⟩
      | (exfalso; omega)
      | trace_state

theorem zhU (l : List AtR) (i : Nat) : atrF l i = atrP (l.getD i ([], v03)) := rfl
theorem znZ (l : List AtR) (p : AtR) (g : Nat → List D) (hg : g 0 = atrP p) : catF l.length (atrF l) 1 g = atrF (l ++ [p]) := by
  funext j
  unfold catF
  rw [zhU, zhU]
  by_cases h : j < l.length
  · rw [if_pos h]
    simp [List.getD_eq_getElem?_getD, List.getElem?_append_left h]
  · rw [if_neg h]
    by_cases h2 : j < l.length + 1
    · have : j = l.length := by omega
      subst this
      rw [if_pos (by omega), Nat.sub_self, hg]
      simp [List.getD_eq_getElem?_getD]
    · rw [if_neg (by omega)]
      simp [List.getD_eq_getElem?_getD, show l.length ≤ j by omega]
      rw [List.getElem?_eq_none (by simp; omega)]
      rfl
theorem zmw (k : Nat) (l : List AtR) (p : AtR) (g : Nat → List D) (hg : g 0 = atrP p) : D.gs k 4 (l.length + 1) (catF l.length (atrF l) 1 g) = D.gs k 4 (l ++ [p]).length (atrF (l ++ [p])) := by
  rw [znZ l p g hg, List.length_append]
  rfl
theorem znF {l more : List AtR} {i : Nat} (h : i < l.length) : (headO l more).take (i + 1) = (headO l more).take i ++ [((l.getD i ([], v03)).1, (lastA (l.getD i ([], v03)).1 more).getD (l.getD i ([], v03)).2)] := by
  unfold headO
  rw [List.take_add_one, List.getElem?_map, List.getElem?_eq_getElem h]
  congr 1
  simp [List.getD_eq_getElem?_getD, h]
theorem ziv {α β : Type} (f : α → β → α) (a : α) (d : β) {l : List β} {i : Nat} (h : i < l.length) : (l.take (i + 1)).foldl f a = f ((l.take i).foldl f a) (l.getD i d) := by
  rw [List.take_add_one, List.foldl_append, List.getElem?_eq_getElem h]
  simp [List.getD_eq_getElem?_getD, h]
theorem zqV (more : List AtR) (out : List AtR) (p : AtR) : (docStep more out p).length ≤ out.length + 1 := by
  unfold docStep
  split
  · omega
  · rw [List.length_append]
    exact Nat.le_refl _
set_option maxRecDepth 100000 in
set_option maxHeartbeats 8000000 in
theorem zhK (l more : List AtR) (hl : l.length ≤ 1048576) (hm : more.length ≤ 1048576) : Ctr Tryz.prog 17 [.sl 4 l.length (atrF l), .sl 4 more.length (atrF more)] (.sl 4 (overD l more).length (atrF (overD l more))) := by
  refine zax Tryz.func17 rfl Tryz.ntmps17 Tryz.results17 rfl rfl fun X hL hX => ?_
  repeat' (first |refine T.adopt 5 5 47 4 (atrF []) rfl rfl ?_|with_reducible (first |refine zah ?_|refine zaa ?_|refine zag ?_|refine zad ?_|refine zaf ?_)|refine zab rfl rfl True.intro ?_|fail)
  refine T.loop hL (fun x : Nat × List AtR => [(0, .sl 4 l.length (atrF l)), (1, .sl 4 more.length (atrF more)), (5, .gs 5 4 x.2.length (atrF x.2)), (6, .i .i64 x.1)]) (fun x => [(5, .row 47 4 x.2.length)])
    (fun x => x.1 ≤ l.length ∧ x.2.length = x.1 ∧ x.2 = (headO l more).take x.1) (fun x => l.length - x.1) (0, []) ⟨Nat.zero_le _, rfl, by rw [List.take_zero]⟩
    ⟨⟨rfl, rfl, rfl, rfl, trivial⟩, ⟨rfl, trivial⟩, rfl, by rw [hX]; simp⟩ ?_
  rintro ⟨i, out⟩ ⟨h1, h2, h3⟩
  try dsimp only at h1 h2 h3 ⊢
  have hnat : (i : Int).toNat = i := Int.toNat_natCast i
  by_cases hi : i < l.length
  · have hi' : (i : Int) < l.length := by omega
    have cL := zfy more (l.getD (i : Int).toNat ([], v03)).1 (by omega)
    have e := znF (more := more) hi
    rw [← h3] at e
    rw [← hnat] at e
    cases hq : lastA (l.getD (i : Int).toNat ([], v03)).1 more with
    | some v =>
      rw [hq] at cL e
      repeat' (first |refine zae (f := 47) rfl rfl Tryz.call47 rfl cL ?_|with_reducible (first |refine zah ?_|refine zaa ?_|refine zag ?_|refine zad ?_|refine zai ?_|refine zaf ?_|refine zao ?_|refine zaC ?_)|refine zab rfl rfl True.intro ?_|refine zal rfl ?_|((first |refine zac rfl ?_ ?_)<;>intro<;>try (first |contradiction))|((first |refine zab rfl rfl ?_ ?_|refine zav rfl rfl ?_ ?_|refine zaH rfl ?_ ?_);focus (first |omega|exact le_ rfl|((repeat' refine And.intro ?_ ?_)<;>omega)|((repeat' refine And.intro ?_ ?_)<;>first |omega|rfl|exact Nat.le_refl _)))|with_reducible refine ⟨by kernel_rfl, ?_⟩|fail)
      all_goals first
        | exact ⟨(i + 1, out ++ [((l.getD (i : Int).toNat ([], v03)).1, v)]), ⟨by dsimp only; omega, by dsimp only; rw [List.length_append]; simp; omega, by dsimp only; rw [hnat] at e ⊢; exact e.symm⟩, by dsimp only; omega, ⟨rfl, rfl, zmw 5 out _ _ rfl, rfl, trivial⟩, ⟨by rw [List.length_append]; rfl, trivial⟩, rfl, by rw [hX]; simp⟩
        | (exfalso; omega)
        | trace_state
    | none =>
      rw [hq] at cL e
      repeat' (first |refine zae (f := 47) rfl rfl Tryz.call47 rfl cL ?_|with_reducible (first |refine zah ?_|refine zaa ?_|refine zag ?_|refine zad ?_|refine zai ?_|refine zaf ?_|refine zao ?_|refine zaC ?_)|refine zab rfl rfl True.intro ?_|refine zau rfl ?_|((first |refine zac rfl ?_ ?_)<;>intro<;>try (first |contradiction))|((first |refine zab rfl rfl ?_ ?_|refine zav rfl rfl ?_ ?_|refine zaH rfl ?_ ?_);focus (first |omega|exact le_ rfl|((repeat' refine And.intro ?_ ?_)<;>omega)|((repeat' refine And.intro ?_ ?_)<;>first |omega|rfl|exact Nat.le_refl _)))|with_reducible refine ⟨by kernel_rfl, ?_⟩|fail)
      all_goals first
        | exact ⟨(i + 1, out ++ [((l.getD (i : Int).toNat ([], v03)).1, (l.getD (i : Int).toNat ([], v03)).2)]), ⟨by dsimp only; omega, by dsimp only; rw [List.length_append]; simp; omega, by dsimp only; rw [hnat] at e ⊢; exact e.symm⟩, by dsimp only; omega, ⟨rfl, rfl, zmw 5 out _ _ rfl, rfl, trivial⟩, ⟨by rw [List.length_append]; rfl, trivial⟩, rfl, by rw [hX]; simp⟩
        | (exfalso; omega)
        | trace_state
  have hi' : ¬ (i : Int) < l.length := by omega
  have hh : out = headO l more := by
    rw [h3]
    exact List.take_of_length_le (by unfold headO; rw [List.length_map]; omega)
  have hlen : out.length ≤ l.length := by omega
  clear h3 h2
  repeat' (first |with_reducible (first |refine zah ?_|refine zaa ?_|refine zag ?_|refine zad ?_|refine zat ?_|refine zaf ?_|refine zas ?_)|refine zab rfl rfl True.intro ?_|((first |refine zac rfl ?_ ?_)<;>intro<;>try (first |contradiction))|refine zaB rfl ?_|fail)
  refine T.loop hL (fun x : Nat × List AtR => [(1, .sl 4 more.length (atrF more)), (5, .gs 5 4 x.2.length (atrF x.2)), (9, .i .i64 x.1)]) (fun x => [(5, .row 47 4 x.2.length)])
    (fun x => x.1 ≤ more.length ∧ x.2.length ≤ l.length + x.1 ∧ x.2 = (more.take x.1).foldl (docStep more) (headO l more)) (fun x => more.length - x.1) (0, out) ⟨Nat.zero_le _, by dsimp only; omega, by dsimp only; rw [List.take_zero]; exact hh⟩
    ⟨⟨rfl, rfl, rfl, trivial⟩, ⟨rfl, trivial⟩, rfl, by rw [hX]; simp⟩ ?_
  clear hh hlen hi' hi hnat h1
  rintro ⟨i, o⟩ ⟨h1, h2, h3⟩
  try dsimp only at h1 h2 h3 ⊢
  have hnat : (i : Int).toNat = i := Int.toNat_natCast i
  by_cases hi : i < more.length
  rotate_left
  · have hi' : ¬ (i : Int) < more.length := by omega
    have hh : o = overD l more := by
      rw [h3, List.take_of_length_le (by omega)]
      rfl
    rw [← hh]
    repeat' (first |with_reducible (first |refine zah ?_|refine zaa ?_|refine zag ?_|refine zad ?_|refine zan ?_|refine zat ?_|refine zas ?_)|refine zab rfl rfl True.intro ?_|((first |refine zac rfl ?_ ?_)<;>intro<;>try (first |contradiction))|refine zaB rfl ?_|refine zaq rfl ?_|fail)
    all_goals rfl
  have hi' : (i : Int) < more.length := by omega
  have cL := zfy more (more.getD (i : Int).toNat ([], v03)).1 (by omega)
  have cO := zfy o (more.getD (i : Int).toNat ([], v03)).1 (by omega)
  have e := ziv (docStep more) (headO l more) ([], v03) hi
  rw [← h3, ← hnat] at e
  have hin := zjr (k := (more.getD (i : Int).toNat ([], v03)).1) (l := o)
  have hlen := zqV more o (more.getD (i : Int).toNat ([], v03))
  unfold docStep at e hlen
  by_cases hk : (more.getD (i : Int).toNat ([], v03)).1 ∈ keysA o
  · rw [if_pos hk] at e
    rw [decide_eq_true hk] at hin
    unfold lastD at cO
    rw [hin] at cO
    repeat' (first |refine zae (f := 47) rfl rfl Tryz.call47 rfl cO ?_|refine zae (f := 47) rfl rfl Tryz.call47 rfl cL ?_|with_reducible (first |refine zah ?_|refine zaa ?_|refine zag ?_|refine zad ?_|refine zai ?_|refine zaf ?_|refine zao ?_)|refine zab rfl rfl True.intro ?_|refine zal rfl ?_|((first |refine zac rfl ?_ ?_)<;>intro<;>try (first |contradiction))|((first |refine zab rfl rfl ?_ ?_|refine zav rfl rfl ?_ ?_|refine zaH rfl ?_ ?_);focus (first |omega|exact le_ rfl|((repeat' refine And.intro ?_ ?_)<;>omega)|((repeat' refine And.intro ?_ ?_)<;>first |rfl|exact Nat.le_refl _)))|fail)
    all_goals first
      | exact ⟨(i + 1, o), ⟨by dsimp only; omega, by dsimp only; omega, by dsimp only; rw [hnat] at e; exact e.symm⟩, by dsimp only; omega, ⟨rfl, rfl, rfl, trivial⟩, ⟨rfl, trivial⟩, rfl, by rw [hX]; simp⟩
      | (exfalso; omega)
      | trace_state
  · rw [if_neg hk] at e
    rw [decide_eq_false hk] at hin
    unfold lastD at cO
    rw [hin] at cO
    repeat' (first |refine zae (f := 47) rfl rfl Tryz.call47 rfl cO ?_|refine zae (f := 47) rfl rfl Tryz.call47 rfl cL ?_|with_reducible (first |refine zah ?_|refine zaa ?_|refine zag ?_|refine zad ?_|refine zai ?_|refine zaf ?_|refine zao ?_|refine zaC ?_)|refine zab rfl rfl True.intro ?_|refine zau rfl ?_|((first |refine zac rfl ?_ ?_)<;>intro<;>try (first |contradiction))|((first |refine zab rfl rfl ?_ ?_|refine zav rfl rfl ?_ ?_|refine zaH rfl ?_ ?_);focus (first |omega|exact le_ rfl|((repeat' refine And.intro ?_ ?_)<;>omega)|((repeat' refine And.intro ?_ ?_)<;>first |omega|rfl|exact Nat.le_refl _)))|with_reducible refine ⟨by kernel_rfl, ?_⟩|fail)
    all_goals first
      | exact ⟨(i + 1, o ++ [withV more (more.getD (i : Int).toNat ([], v03)).1]), ⟨by dsimp only; omega, by dsimp only; rw [List.length_append]; simp; omega, by dsimp only; rw [hnat] at e ⊢; exact e.symm⟩, by dsimp only; omega, ⟨rfl, zmw 5 o _ _ rfl, rfl, trivial⟩, ⟨by rw [List.length_append]; rfl, trivial⟩, rfl, by rw [hX]; simp⟩
      | (exfalso; omega)
      | trace_state

abbrev d0A : AtR := ([], v03)
theorem zbs (out : List AtR) (a : AtR) : (setA out a).length = out.length := List.length_map ..
theorem zjk {out : List AtR} {a : AtR} {i : Nat} (h : i < out.length) : (setA out a).getD i d0A = if (out.getD i d0A).1 = a.1 then ((out.getD i d0A).1, a.2) else out.getD i d0A := by
  unfold setA
  simp [List.getD_eq_getElem?_getD, h]
def mixA (out : List AtR) (a : AtR) (j : Nat) : List AtR := (setA out a).take j ++ out.drop j
theorem zjS (out : List AtR) (a : AtR) : mixA out a 0 = out := by
  unfold mixA
  rw [List.take_zero, List.drop_zero, List.nil_append]
theorem zmP {out : List AtR} {a : AtR} {j : Nat} (h : out.length ≤ j) : mixA out a j = setA out a := by
  unfold mixA
  rw [List.take_of_length_le (by rw [zbs]; exact h), List.drop_of_length_le h, List.append_nil]
theorem ziI {out : List AtR} {a : AtR} {j : Nat} (h : j ≤ out.length) (i : Nat) : (mixA out a j).getD i d0A = if i < j then (setA out a).getD i d0A else out.getD i d0A := by
  have hl : ((setA out a).take j).length = j := by
    rw [List.length_take, zbs]
    omega
  unfold mixA
  by_cases hi : i < j
  · rw [if_pos hi, List.getD_eq_getElem?_getD, List.getElem?_append_left (by omega), List.getElem?_take_of_lt hi, List.getD_eq_getElem?_getD]
  · rw [if_neg hi, List.getD_eq_getElem?_getD, List.getElem?_append_right (by omega), hl, List.getElem?_drop, List.getD_eq_getElem?_getD]
    congr 2
    omega
theorem zpD {out : List AtR} {a : AtR} {j : Nat} (h : j < out.length) (hk : ¬ (out.getD j d0A).1 = a.1) : mixA out a (j + 1) = mixA out a j := by
  have e := zjk (a := a) h
  rw [if_neg hk] at e
  have h1 : (setA out a).take (j + 1) = (setA out a).take j ++ [(setA out a).getD j d0A] := by
    rw [List.take_add_one]
    congr 1
    simp [List.getD_eq_getElem?_getD, show j < (setA out a).length by rw [zbs]; exact h]
  have h2 : out.drop j = out.getD j d0A :: out.drop (j + 1) := zje h
  unfold mixA
  rw [h1, h2, e, List.append_assoc]
  rfl
theorem zgO {out : List AtR} {a : AtR} : ∀ (n j : Nat), out.length - j = n → (∀ k, j ≤ k → k < out.length → ¬ (out.getD k d0A).1 = a.1) → mixA out a j = setA out a
  | 0, j, h, _ => zmP (by omega)
  | n + 1, j, h, hk => by
    rw [← zpD (by omega) (hk j (Nat.le_refl _) (by omega))]
    exact zgO n (j + 1) (by omega) fun k h1 h2 => hk k (by omega) h2
theorem zra {out : List AtR} {a : AtR} {j : Nat} (h : j < out.length) (hk : (out.getD j d0A).1 = a.1) (cs : List D) (hc : cs = atrP ((out.getD j d0A).1, a.2)) (i : Nat) : putF (atrF (mixA out a j)) j cs i = atrF (mixA out a (j + 1)) i := by
  rw [zhU, ziI (by omega)]
  unfold putF
  by_cases hi : i = j
  · subst hi
    rw [if_pos rfl, if_pos (by omega), zjk h, if_pos hk, hc]
  · rw [if_neg hi, zhU, ziI (by omega)]
    by_cases h1 : i < j
    · rw [if_pos h1, if_pos (by omega)]
    · rw [if_neg h1, if_neg (by omega)]
theorem zcj (out : List AtR) (i : Nat) : (keysA out).getD i [] = (out.getD i d0A).1 := by
  unfold keysA
  rw [List.getD_eq_getElem?_getD, List.getElem?_map, List.getD_eq_getElem?_getD]
  cases out[i]? <;> rfl
theorem zqe {out : List AtR} {k : List UInt8} (h : k ∉ keysA out) : ∀ i, i < out.length → ¬ (out.getD i d0A).1 = k := fun i hi e => by
  refine h (List.mem_map.2 ⟨out.getD i d0A, ?_, e⟩)
  rw [show out.getD i d0A = out[i] by simp [List.getD_eq_getElem?_getD, hi]]
  exact List.getElem_mem hi
theorem zjW {l : List (List UInt8)} {j : Nat} (h : j < l.length) (k : List UInt8) : k ∈ l.take (j + 1) ↔ k ∈ l.take j ∨ l.getD j [] = k := by
  rw [List.take_add_one, List.mem_append]
  have e : l[j]?.toList = [l.getD j []] := by simp [List.getD_eq_getElem?_getD, h]
  rw [e, List.mem_singleton]
  exact ⟨fun q => q.imp id Eq.symm, fun q => q.imp id Eq.symm⟩
theorem zlB {l more : List AtR} {i : Nat} (h : i < more.length) : overA l (more.take (i + 1)) = stepO (overA l (more.take i)) (more.getD i d0A) := by
  unfold overA
  exact ziv stepO l d0A h
theorem ziu {l more : List AtR} {j k : Nat} (hj : l.length ≤ j) (hk : j < k) (hl : k < (overA l more).length) : ¬ ((overA l more).getD k d0A).1 = ((overA l more).getD j d0A).1 := fun e => by
  have hlen : (keysA (overA l more)).length = (overA l more).length := List.length_map ..
  have hll : (keysA l).length = l.length := List.length_map ..
  have h := znv (keysA l) more k (by omega) (by rw [← zdw, hlen]; exact hl)
  rw [← zdw, zcj, e, ← zcj] at h
  refine h ?_
  rw [List.getD_eq_getElem?_getD, List.getElem?_eq_getElem (by omega), Option.getD_some]
  exact List.mem_iff_getElem.2 ⟨j, by rw [List.length_take]; omega, by rw [List.getElem_take]⟩
theorem zhZ (out : List AtR) (a : AtR) : (stepO out a).length ≤ out.length + 1 := by
  unfold stepO
  split
  · rw [zbs]
    omega
  · rw [List.length_append]
    exact Nat.le_refl _
set_option maxHeartbeats 4000000 in
theorem zdK (l : List AtR) (hl : l.length ≤ 1048576) : CtrO Tryz.prog 37 [.sl 4 l.length (atrF l)] [] (.ah 5 4 l.length) [(5, .arr 47 4 l.length (atrF l))] := by
  refine r_new 5 Tryz.func37 rfl Tryz.ntmps37 Tryz.results37 rfl fun X hL hX => ?_
  rcases Nat.eq_zero_or_pos l.length with h0 | h0
  · rw [h0]
    refine T.slcase 0 4 (atrF l) rfl ?_ ?_
    · skip
      repeat' (first |with_reducible (first |refine zah ?_|refine zaa ?_|refine zag ?_|refine zad ?_|refine zan ?_|refine zam ?_)|refine zab rfl rfl True.intro ?_|refine zau rfl ?_|refine zqP 2 rfl rfl rfl rfl rfl|fail)
    · skip
      repeat' (first |refine zrr (t := 5) rfl rfl (by (first |omega|(simp_all;done))) ?_|with_reducible (first |refine zah ?_|refine zaa ?_|refine zag ?_|refine zad ?_|refine zan ?_|refine zai ?_)|refine zab rfl rfl True.intro ?_|refine zal rfl ?_|((first |refine zav rfl rfl ?_ ?_);focus (first |(simp_all;done)))|refine zpK rfl rfl rfl (fun i hi => by omega)|fail)
  · skip
    repeat' (first |refine zrr (t := 5) rfl rfl (by (first |omega|(simp_all;done))) ?_|with_reducible (first |refine zah ?_|refine zaa ?_|refine zag ?_|refine zad ?_|refine zan ?_|refine zai ?_)|refine zab rfl rfl True.intro ?_|refine zal rfl ?_|((first |refine zab rfl rfl ?_ ?_|refine zav rfl rfl ?_ ?_);focus (first |omega|(simp_all;omega)))|refine zpK rfl rfl ?_ ?_|fail)
    · exact Nat.zero_add _
    · intro i hi
      unfold catF
      rw [if_neg (by omega), if_pos (by omega), Nat.sub_zero]
set_option maxRecDepth 100000 in
set_option maxHeartbeats 8000000 in
theorem zht (l more : List AtR) (hl : l.length ≤ 1048576) (hm : more.length ≤ 1048576) : Ctr Tryz.prog 16 [.sl 4 l.length (atrF l), .sl 4 more.length (atrF more)] (.sl 4 (overA l more).length (atrF (overA l more))) := by
  refine zax Tryz.func16 rfl Tryz.ntmps16 Tryz.results16 rfl rfl fun X hL hX => ?_
  have hc := zdK l hl
  repeat' (first |with_reducible (first |refine zah ?_|refine zaa ?_|refine zag ?_|refine zad ?_|refine zaf ?_)|refine zab rfl rfl True.intro ?_|refine zqa (f := 37) rfl rfl Tryz.call37 rfl hc rfl ?_|fail)
  refine T.loop hL (fun x : Nat × List AtR => [(5, .ah 12 4 x.2.length), (6, .i .i64 l.length), (15, .sl 4 more.length (atrF more)), (16, .i .i64 more.length), (17, .i .i64 x.1)]) (fun x => [(12, .arr 47 4 x.2.length (atrF x.2))])
    (fun x => x.1 ≤ more.length ∧ x.2.length ≤ l.length + x.1 ∧ x.2 = overA l (more.take x.1)) (fun x => more.length - x.1) (0, l) ⟨Nat.zero_le _, Nat.le_refl _, by rw [List.take_zero]; rfl⟩
    ⟨⟨rfl, rfl, rfl, rfl, rfl, trivial⟩, ⟨⟨_, _, rfl, rfl, fun i hi => .inl rfl⟩, trivial⟩, rfl, by rw [hX]; simp⟩ ?_
  rintro ⟨i, out⟩ ⟨h1, h2, h3⟩
  try dsimp only at h1 h2 h3 ⊢
  have hnat : (i : Int).toNat = i := Int.toNat_natCast i
  by_cases hi : i < more.length
  rotate_left
  · have hi' : ¬ (i : Int) < more.length := by omega
    have hh : out = overA l more := by
      rw [h3, List.take_of_length_le (by omega)]
    rw [← hh]
    repeat' (first |with_reducible (first |refine zah ?_|refine zaa ?_|refine zag ?_|refine zad ?_|refine zan ?_|refine zat ?_|refine zas ?_)|refine zab rfl rfl True.intro ?_|((first |refine zac rfl ?_ ?_)<;>intro<;>try (first |contradiction))|refine zaB rfl ?_|refine zeL [4] 12 rfl ⟨rfl, trivial⟩ rfl ?_|fail)
    all_goals first
      | exact .refl _
      | trace_state
  have hi' : (i : Int) < more.length := by omega
  have e := zlB (l := l) hi
  have once : ∀ j k, l.length ≤ j → j < k → k < out.length → ¬ (out.getD k d0A).1 = (out.getD j d0A).1 := fun j k g1 g2 g3 => by
    rw [h3] at g3 ⊢
    exact ziu g1 g2 g3
  rw [← h3, ← hnat] at e
  have hlen := zhZ out (more.getD (i : Int).toNat ([], v03))
  rw [← e] at hlen
  clear h3
  repeat' (first |with_reducible (first |refine zah ?_|refine zaa ?_|refine zag ?_|refine zad ?_|refine zai ?_|refine zaf ?_)|refine zab rfl rfl True.intro ?_|((first |refine zac rfl ?_ ?_)<;>intro<;>try (first |contradiction))|((first |refine zab rfl rfl ?_ ?_|refine zav rfl rfl ?_ ?_|refine zaH rfl ?_ ?_);focus (first |omega|exact le_ rfl|((repeat' refine And.intro ?_ ?_)<;>first |rfl|exact Nat.le_refl _)))|fail)
  refine T.loop hL (fun y : Nat × Bool => [(5, .ah 12 4 out.length), (6, .i .i64 l.length), (8, .pv 8 0), (9, .b y.2), (15, .sl 4 more.length (atrF more)), (16, .i .i64 more.length), (17, .i .i64 i), (22, .i .i64 out.length), (23, .i .i64 y.1)]) (fun y => [(12, .arr 47 4 out.length (atrF (mixA out (more.getD (i : Int).toNat ([], v03)) y.1))), (8, .var (atrP (more.getD (i : Int).toNat ([], v03))))])
    (fun y => y.1 ≤ out.length ∧ y.2 = decide ((more.getD (i : Int).toNat ([], v03)).1 ∈ (keysA out).take y.1)) (fun y => out.length - y.1) (0, false) ⟨Nat.zero_le _, by dsimp only; rw [List.take_zero]; exact (decide_eq_false List.not_mem_nil).symm⟩
    ⟨⟨rfl, rfl, rfl, rfl, rfl, rfl, rfl, rfl, rfl, trivial⟩, ⟨⟨_, _, rfl, rfl, fun k hk => .inl (by rw [zjS])⟩, rfl, trivial⟩, rfl, by rw [hX]; simp⟩ ?_
  rintro ⟨j, fd⟩ ⟨g1, g2⟩
  try dsimp only at g1 g2 ⊢
  have hkl : (keysA out).length = out.length := List.length_map ..
  have jnat : (j : Int).toNat = j := Int.toNat_natCast j
  by_cases hj : j < out.length
  rotate_left
  · have hj' : ¬ (j : Int) < out.length := by omega
    rw [List.take_of_length_le (by omega)] at g2
    rw [zmP (show out.length ≤ j by omega)]
    unfold stepO at e
    cases fd with
    | true =>
      rw [if_pos (of_decide_eq_true g2.symm)] at e
      repeat' (first |with_reducible (first |refine zah ?_|refine zaa ?_|refine zag ?_|refine zad ?_|refine zai ?_|refine zat ?_|refine zao ?_|refine zas ?_)|refine zab rfl rfl True.intro ?_|refine zal rfl ?_|((first |refine zac rfl ?_ ?_)<;>intro<;>try (first |contradiction))|((first |refine zab rfl rfl ?_ ?_);focus (first |omega))|refine zaB rfl ?_|fail)
      all_goals first
        | exact ⟨(i + 1, setA out (more.getD (i : Int).toNat ([], v03))), ⟨by dsimp only; omega, by dsimp only; rw [zbs]; omega, by dsimp only; exact e.symm⟩, by dsimp only; omega, ⟨congrArg (D.ah 12 4) (zbs _ _).symm, rfl, rfl, rfl, rfl, trivial⟩, ⟨⟨_, _, rfl, (zbs _ _).symm, fun k hk => .inl rfl⟩, trivial⟩, rfl, by rw [hX]; simp⟩
        | (exfalso; omega)
        | trace_state
    | false =>
      have hno := of_decide_eq_false g2.symm
      rw [if_neg hno] at e
      have hs : setA out (more.getD (i : Int).toNat ([], v03)) = out := (zgO out.length 0 rfl fun k _ hk => zqe hno k hk).symm.trans (zjS _ _)
      rw [hs]
      have hcat : ∀ k, catF out.length (atrF out) 1 (chunk 4 (atrP (more.getD (i : Int).toNat ([], v03)))) k = atrF (out ++ [(more.getD (i : Int).toNat ([], v03))]) k := congrFun (znZ out (more.getD (i : Int).toNat ([], v03)) _ rfl)
      have hap : out.length + 1 = (out ++ [(more.getD (i : Int).toNat ([], v03))]).length := by rw [List.length_append]; rfl
      repeat' (first |with_reducible (first |refine zah ?_|refine zaa ?_|refine zag ?_|refine zad ?_|refine zat ?_|refine zao ?_|refine zas ?_)|refine zab rfl rfl True.intro ?_|refine zau rfl ?_|((first |refine zac rfl ?_ ?_)<;>intro<;>try (first |contradiction))|((first |refine zab rfl rfl ?_ ?_|refine zav rfl rfl ?_ ?_);focus (first |omega|exact le_ rfl|((repeat' refine And.intro ?_ ?_)<;>first |omega|rfl)))|refine zaB rfl ?_|fail)
      all_goals first
        | exact ⟨(i + 1, out ++ [(more.getD (i : Int).toNat ([], v03))]), ⟨by dsimp only; omega, by dsimp only; rw [List.length_append]; simp; omega, by dsimp only; exact e.symm⟩, by dsimp only; omega, ⟨congrArg (D.ah 12 4) hap, rfl, rfl, rfl, rfl, trivial⟩, ⟨⟨_, _, rfl, hap, fun k hk => .inl (hcat k)⟩, trivial⟩, rfl, by rw [hX]; simp⟩
        | (exfalso; omega)
        | trace_state
  have hj' : (j : Int) < out.length := by omega
  have tm := zjW (l := keysA out) (j := j) (by omega) (more.getD (i : Int).toNat ([], v03)).1
  rw [zcj] at tm
  have hg := ziI (a := (more.getD (i : Int).toNat ([], v03))) (Nat.le_of_lt hj) j
  rw [if_neg (Nat.lt_irrefl _)] at hg
  by_cases hk : (out.getD j ([], v03)).1 = (more.getD (i : Int).toNat ([], v03)).1
  · have hk' : ((mixA out (more.getD (i : Int).toNat ([], v03)) j).getD (j : Int).toNat ([], v03)).1 = (more.getD (i : Int).toNat ([], v03)).1 := by rw [jnat, hg]; exact hk
    have hin : decide ((more.getD (i : Int).toNat ([], v03)).1 ∈ (keysA out).take (j + 1)) = true := decide_eq_true (tm.2 (.inr hk))
    have hput : ∀ k, putF (atrF (mixA out (more.getD (i : Int).toNat ([], v03)) j)) (j : Int).toNat (putCells (atrF (mixA out (more.getD (i : Int).toNat ([], v03)) j) (j : Int).toNat) (0 + 1) (D.ag (vlC (more.getD (i : Int).toNat ([], v03)).2)).cells) k = atrF (mixA out (more.getD (i : Int).toNat ([], v03)) (j + 1)) k := fun k => by
      rw [jnat]
      exact zra hj hk _ (by rw [zhU, hg]; rfl) k
    have hr : l.length ≤ j → mixA out (more.getD (i : Int).toNat ([], v03)) (j + 1) = setA out (more.getD (i : Int).toNat ([], v03)) := fun hb => zgO _ (j + 1) rfl fun k h4 h5 h6 => once j k hb (by omega) h5 (h6.trans hk.symm)
    have hmem : (more.getD (i : Int).toNat ([], v03)).1 ∈ keysA out := List.mem_of_mem_take (of_decide_eq_true hin)
    unfold stepO at e
    rw [if_pos hmem] at e
    by_cases hb : l.length ≤ j
    · have hb' : (j : Int) ≥ l.length := by omega
      have hr := hr hb
      repeat' (first |with_reducible (first |refine zah ?_|refine zaa ?_|refine zag ?_|refine zad ?_|refine zai ?_|refine zat ?_|refine zaf ?_|refine zao ?_|refine zas ?_|refine zaC ?_)|refine zab rfl rfl True.intro ?_|refine zal rfl ?_|((first |refine zac rfl ?_ ?_|refine zaQ rfl ?_ ?_)<;>intro<;>try (first |contradiction))|((first |refine zab rfl rfl ?_ ?_|refine zaH rfl ?_ ?_);focus (first |omega|exact le_ rfl|((repeat' refine And.intro ?_ ?_)<;>first |omega|rfl|exact Nat.le_refl _|exact le_ rfl)))|refine zaB rfl ?_|refine zel rfl ?_|with_reducible refine ⟨by kernel_rfl, ?_⟩|fail)
      all_goals first
        | exact ⟨(i + 1, setA out (more.getD (i : Int).toNat ([], v03))), ⟨by dsimp only; omega, by dsimp only; rw [zbs]; omega, by dsimp only; exact e.symm⟩, by dsimp only; omega, ⟨congrArg (D.ah 12 4) (zbs _ _).symm, rfl, rfl, rfl, rfl, trivial⟩, ⟨⟨_, _, rfl, (zbs _ _).symm, fun k h4 => .inl (by rw [← hr]; exact hput k)⟩, trivial⟩, rfl, by rw [hX]; simp⟩
        | (exfalso; omega)
        | trace_state
    · have hb' : ¬ (j : Int) ≥ l.length := by omega
      repeat' (first |with_reducible (first |refine zah ?_|refine zaa ?_|refine zag ?_|refine zad ?_|refine zai ?_|refine zaf ?_|refine zao ?_|refine zaC ?_)|refine zab rfl rfl True.intro ?_|((first |refine zac rfl ?_ ?_|refine zaQ rfl ?_ ?_)<;>intro<;>try (first |contradiction))|((first |refine zab rfl rfl ?_ ?_|refine zaH rfl ?_ ?_);focus (first |omega|exact le_ rfl|((repeat' refine And.intro ?_ ?_)<;>first |omega|rfl|exact Nat.le_refl _|exact le_ rfl)))|with_reducible refine ⟨by kernel_rfl, ?_⟩|fail)
      all_goals first
        | exact ⟨(j + 1, true), ⟨by dsimp only; omega, by dsimp only; exact hin.symm⟩, by dsimp only; omega, ⟨rfl, rfl, rfl, rfl, rfl, rfl, rfl, rfl, rfl, trivial⟩, ⟨⟨_, _, rfl, rfl, fun k h4 => .inl (hput k)⟩, rfl, trivial⟩, rfl, by rw [hX]; simp⟩
        | (exfalso; omega)
        | trace_state
  · have hk' : ¬ ((mixA out (more.getD (i : Int).toNat ([], v03)) j).getD (j : Int).toNat ([], v03)).1 = (more.getD (i : Int).toNat ([], v03)).1 := by rw [jnat, hg]; exact hk
    have hin : decide ((more.getD (i : Int).toNat ([], v03)).1 ∈ (keysA out).take (j + 1)) = fd := by
      rw [g2]
      exact decide_eq_decide.2 ⟨fun q => (tm.1 q).resolve_right hk, fun q => tm.2 (.inl q)⟩
    have hn := zpD hj hk
    repeat' (first |with_reducible (first |refine zah ?_|refine zaa ?_|refine zag ?_|refine zad ?_|refine zai ?_|refine zaf ?_|refine zao ?_|refine zaC ?_)|refine zab rfl rfl True.intro ?_|((first |refine zac rfl ?_ ?_|refine zaQ rfl ?_ ?_)<;>intro<;>try (first |contradiction))|((first |refine zab rfl rfl ?_ ?_);focus (first |omega|exact le_ rfl|((repeat' refine And.intro ?_ ?_)<;>first |omega|exact le_ rfl)))|with_reducible refine ⟨by kernel_rfl, ?_⟩|fail)
    all_goals first
      | exact ⟨(j + 1, fd), ⟨by dsimp only; omega, by dsimp only; exact hin.symm⟩, by dsimp only; omega, ⟨rfl, rfl, rfl, rfl, rfl, rfl, rfl, rfl, rfl, trivial⟩, ⟨⟨_, _, rfl, rfl, fun k h4 => .inl (by dsimp only; rw [hn])⟩, rfl, trivial⟩, rfl, by rw [hX]; simp⟩
      | (exfalso; omega)
      | trace_state
end Go.Proofs.YtkkaamhocpmhkaaGreatDoor.Flow
