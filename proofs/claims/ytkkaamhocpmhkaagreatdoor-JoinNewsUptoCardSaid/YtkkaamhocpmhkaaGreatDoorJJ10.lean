/- The texts H1, Cs1, Cs2, Cs3, H0, Cs4, Cs5, Cs13, Cs20, one behind the other. -/
import Derived.Test.YtkkaamhocpmhkaaGreatDoorJJ7
import Derived.Test.YtkkaamhocpmhkaaGreatDoorJJ8
namespace Go.Proofs.YtkkaamhocpmhkaaGreatDoor.Flow
open Go
theorem zhk {α : Type} {P : List α → Prop} (h0 : P []) (hs : ∀ l a, P l → P (l ++ [a])) (l : List α) : P l := by
  have h : ∀ r : List α, P r.reverse := fun r => by
    induction r with
    | nil => exact h0
    | cons a r ih =>
      rw [List.reverse_cons]
      exact hs _ _ ih
  have := h l.reverse
  rwa [List.reverse_reverse] at this
abbrev Vl3 := Int × List UInt8 × Int
abbrev AtR := List UInt8 × Vl3
def v03 : Vl3 := (0, [], 0)
def keysA (l : List AtR) : List (List UInt8) := l.map (·.1)
def lastA (k : List UInt8) : List AtR → Option Vl3
  | [] => none
  | p :: r => match lastA k r with
    | some v => some v
    | none => if p.1 = k then some p.2 else none
theorem zdZ (k : List UInt8) (a : AtR) : ∀ l : List AtR, lastA k (l ++ [a]) = if a.1 = k then some a.2 else lastA k l
  | [] => by
    rw [List.nil_append, lastA, lastA]
    rfl
  | p :: r => by
    rw [List.cons_append, lastA, lastA, zdZ k a r]
    by_cases h : a.1 = k
    · rw [if_pos h, if_pos h]
    · rw [if_neg h, if_neg h]
theorem zjr {k : List UInt8} : ∀ {l : List AtR}, (lastA k l).isSome = decide (k ∈ keysA l)
  | [] => rfl
  | p :: r => by
    have h := zjr (k := k) (l := r)
    unfold keysA at h ⊢
    rw [lastA, List.map_cons]
    cases hq : lastA k r with
    | some v =>
      rw [hq] at h
      have h := of_decide_eq_true h.symm
      exact (decide_eq_true (List.mem_cons_of_mem _ h)).symm
    | none =>
      rw [hq] at h
      have h := of_decide_eq_false h.symm
      by_cases hp : p.1 = k
      · rw [if_pos hp, ← hp]
        exact (decide_eq_true (List.mem_cons_self ..)).symm
      · rw [if_neg hp]
        exact (decide_eq_false fun q => (List.mem_cons.1 q).elim (fun e => hp e.symm) h).symm
def setA (out : List AtR) (a : AtR) : List AtR := out.map fun p => if p.1 = a.1 then (p.1, a.2) else p
def stepO (out : List AtR) (a : AtR) : List AtR := if a.1 ∈ keysA out then setA out a else out ++ [a]
def overA (l more : List AtR) : List AtR := more.foldl stepO l
def growK (ks : List (List UInt8)) (m : List AtR) : List (List UInt8) := m.foldl (fun ks p => if p.1 ∈ ks then ks else ks ++ [p.1]) ks
theorem zbZ (ks : List (List UInt8)) (m : List AtR) (a : AtR) : growK ks (m ++ [a]) = if a.1 ∈ growK ks m then growK ks m else growK ks m ++ [a.1] := by
  unfold growK
  rw [List.foldl_append]
  rfl
theorem zlI (out : List AtR) (a : AtR) : keysA (setA out a) = keysA out := by
  unfold keysA setA
  rw [List.map_map]
  refine List.map_congr_left fun p _ => ?_
  show (if p.1 = a.1 then (p.1, a.2) else p).1 = p.1
  split <;> rfl
theorem zkL (out : List AtR) (a : AtR) : keysA (stepO out a) = if a.1 ∈ keysA out then keysA out else keysA out ++ [a.1] := by
  unfold stepO
  by_cases h : a.1 ∈ keysA out
  · rw [if_pos h, if_pos h, zlI]
  · rw [if_neg h, if_neg h]
    unfold keysA
    rw [List.map_append]
    rfl
theorem zdw (l : List AtR) : ∀ more, keysA (overA l more) = growK (keysA l) more := by
  intro more
  unfold overA growK
  induction more generalizing l with
  | nil => rfl
  | cons a r ih =>
    rw [List.foldl_cons, List.foldl_cons, ih, zkL]
theorem zcd (ks : List (List UInt8)) : ∀ m, (growK ks m).take ks.length = ks ∧ ks.length ≤ (growK ks m).length := by
  intro m
  unfold growK
  induction m generalizing ks with
  | nil => exact ⟨List.take_length, Nat.le_refl _⟩
  | cons a r ih =>
    rw [List.foldl_cons]
    by_cases h : a.1 ∈ ks
    · rw [if_pos h]
      exact ih ks
    · rw [if_neg h]
      obtain ⟨h1, h2⟩ := ih (ks ++ [a.1])
      rw [List.length_append] at h1 h2
      simp only [List.length_cons, List.length_nil] at h1 h2
      refine ⟨?_, by omega⟩
      have := congrArg (List.take ks.length) h1
      rw [List.take_take, List.take_left'] at this
      · rwa [Nat.min_eq_left (by omega)] at this
      · rfl
theorem znv (ks : List (List UInt8)) : ∀ (m : List AtR) (i : Nat), ks.length ≤ i → i < (growK ks m).length → (growK ks m).getD i [] ∉ (growK ks m).take i := by
  intro m
  induction m using zhk with
  | h0 =>
    intro i h1 h2
    exact absurd h2 (Nat.not_lt.2 h1)
  | hs m a ih =>
    intro i h1 h2
    rw [zbZ] at h2 ⊢
    by_cases h : a.1 ∈ growK ks m
    · rw [if_pos h] at h2 ⊢
      exact ih i h1 h2
    · rw [if_neg h] at h2 ⊢
      rw [List.length_append] at h2
      simp only [List.length_cons, List.length_nil] at h2
      by_cases hi : i < (growK ks m).length
      · have := ih i h1 hi
        rw [List.take_append_of_le_length (by omega)]
        rwa [show (growK ks m ++ [a.1]).getD i [] = (growK ks m).getD i [] by simp [List.getD_eq_getElem?_getD, List.getElem?_append_left hi]]
      · have e : i = (growK ks m).length := by omega
        subst e
        rw [List.take_left', show (growK ks m ++ [a.1]).getD (growK ks m).length [] = a.1 by simp [List.getD_eq_getElem?_getD]]
        · exact h
        · rfl
def headO (l more : List AtR) : List AtR := l.map fun p => (p.1, (lastA p.1 more).getD p.2)
def withV (more : List AtR) (k : List UInt8) : AtR := (k, (lastA k more).getD v03)
def docStep (more : List AtR) (out : List AtR) (p : AtR) : List AtR := if p.1 ∈ keysA out then out else out ++ [withV more p.1]
def overD (l more : List AtR) : List AtR := more.foldl (docStep more) (headO l more)
def closedO (l more m : List AtR) : List AtR := headO l more ++ ((growK (keysA l) m).drop l.length).map (withV more)
theorem zmU (l more : List AtR) : keysA (headO l more) = keysA l := by
  unfold keysA headO
  rw [List.map_map]
  rfl
theorem zeV (l more m : List AtR) : keysA (closedO l more m) = growK (keysA l) m := by
  have h := zcd (keysA l) m
  have e := zmU l more
  have hl : (keysA l).length = l.length := List.length_map ..
  unfold closedO
  unfold keysA at e h hl ⊢
  rw [List.map_append, e, List.map_map]
  rw [show ((fun p : AtR => p.1) ∘ withV more) = id from rfl, List.map_id, ← hl]
  conv => rhs; rw [← List.take_append_drop (l.map fun p => p.1).length (growK (l.map fun p => p.1) m), h.1]
theorem zhT (ks : List (List UInt8)) (k : List UInt8) (n : Nat) (h : n ≤ ks.length) : (ks ++ [k]).drop n = ks.drop n ++ [k] := List.drop_append_of_le_length h
theorem ziQ (l more : List AtR) : overD l more = closedO l more more := by
  unfold overD
  have hg : ∀ m, m.foldl (docStep more) (headO l more) = closedO l more m := by
    intro m
    induction m using zhk with
    | h0 =>
      unfold closedO
      have e : (growK (keysA l) []).drop l.length = [] := by
        show (keysA l).drop l.length = []
        unfold keysA
        exact List.drop_of_length_le (by rw [List.length_map]; exact Nat.le_refl _)
      rw [e]
      exact (List.append_nil _).symm
    | hs m a ih =>
      rw [List.foldl_append, ih]
      show docStep more (closedO l more m) a = _
      unfold docStep
      rw [zeV]
      have h2 := (zcd (keysA l) m).2
      have hl : (keysA l).length = l.length := List.length_map ..
      by_cases h : a.1 ∈ growK (keysA l) m
      · rw [if_pos h]
        unfold closedO
        rw [zbZ, if_pos h]
      · rw [if_neg h]
        unfold closedO
        rw [zbZ, if_neg h, zhT _ _ _ (by omega), List.map_append, List.append_assoc]
        rfl
  exact hg more
theorem znE (l : List AtR) : ∀ more, overA l more = closedO l more more := by
  intro more
  induction more using zhk with
  | h0 =>
    unfold closedO overA
    have e : (growK (keysA l) []).drop l.length = [] := by
      show (keysA l).drop l.length = []
      unfold keysA
      exact List.drop_of_length_le (by rw [List.length_map]; exact Nat.le_refl _)
    rw [e]
    unfold headO
    rw [show (l.map fun p => (p.1, (lastA p.1 []).getD p.2)) = l from List.map_id _]
    exact (List.append_nil _).symm
  | hs m a ih =>
    have e0 : overA l (m ++ [a]) = stepO (overA l m) a := by
      unfold overA
      rw [List.foldl_append]
      rfl
    have h2 := (zcd (keysA l) m).2
    have hl : (keysA l).length = l.length := List.length_map ..
    rw [e0, ih]
    unfold stepO
    rw [zeV]
    have eh : ∀ p : AtR, (if p.1 = a.1 then (p.1, a.2) else (p.1, (lastA p.1 m).getD p.2)) = (p.1, (lastA p.1 (m ++ [a])).getD p.2) := fun p => by
      rw [zdZ]
      by_cases h : p.1 = a.1
      · rw [if_pos h, if_pos h.symm]
        rfl
      · rw [if_neg h, if_neg fun q => h q.symm]
    have ew : ∀ k, (if k = a.1 then (k, a.2) else withV m k) = withV (m ++ [a]) k := fun k => by
      unfold withV
      rw [zdZ]
      by_cases h : k = a.1
      · rw [if_pos h, if_pos h.symm]
        rfl
      · rw [if_neg h, if_neg fun q => h q.symm]
    by_cases h : a.1 ∈ growK (keysA l) m
    · rw [if_pos h]
      unfold closedO setA headO
      rw [zbZ, if_pos h, List.map_append, List.map_map, List.map_map]
      congr 1
      · exact List.map_congr_left fun p _ => eh p
      · exact List.map_congr_left fun k _ => ew k
    · rw [if_neg h]
      unfold closedO headO
      rw [zbZ, if_neg h, zhT _ _ _ (by omega), List.map_append, ← List.append_assoc]
      have h1 := (zcd (keysA l) m).1
      congr 1
      · congr 1
        · refine List.map_congr_left fun p hp => ?_
          have := eh p
          rwa [if_neg] at this
          intro q
          refine h (q ▸ ?_)
          have hm : p.1 ∈ (growK (keysA l) m).take (keysA l).length := by
            rw [h1]
            exact List.mem_map.2 ⟨p, hp, rfl⟩
          exact List.mem_of_mem_take hm
        · refine List.map_congr_left fun k hk => ?_
          have := ew k
          rwa [if_neg] at this
          intro q
          exact h (q ▸ List.mem_of_mem_drop hk)
      · have e := ew a.1
        rw [if_pos rfl] at e
        show [a] = [withV (m ++ [a]) a.1]
        rw [← e]
theorem zjm (l more : List AtR) : overD l more = overA l more := (ziQ l more).trans (znE l more).symm
end Go.Proofs.YtkkaamhocpmhkaaGreatDoor.Flow

namespace Go.Proofs.YtkkaamhocpmhkaaGreatDoor.Flow.Csv
open Go
def endF (s : List UInt8) (i : Int) : Int :=
  if i < s.length ∧ at' s i = 10 then 1 else if i + 1 < s.length ∧ at' s i = 13 ∧ at' s (i+1) = 10 then 2 else 0
def overF (s : List UInt8) (i : Int) : Bool := decide (s.length ≤ i) || decide (at' s i = 44) || decide (endF s i > 0)
def quotF (s : List UInt8) (i : Int) (b : List UInt8) : List UInt8 × Int × Int :=
  if h : i < s.length then
    if at' s i ≠ 34 then quotF s (i + 1) (b ++ [s.getD i.toNat 0])
    else if i + 1 < s.length ∧ at' s (i + 1) = 34 then quotF s (i + 2) (b ++ [34])
    else if overF s (i + 1) then (b, i + 1, 0)
    else ([], i + 1, 3)
  else ([], i, 2)
termination_by (s.length - i).toNat
decreasing_by all_goals omega
def plainF (s : List UInt8) (i : Int) (b : List UInt8) : List UInt8 × Int × Int :=
  if _h : overF s i then (b, i, 0)
  else if at' s i = 34 ∨ at' s i = 13 then ([], i, 3)
  else plainF s (i + 1) (b ++ [s.getD i.toNat 0])
termination_by (s.length - i).toNat
decreasing_by
  have : ¬ s.length ≤ i := by
    intro h'
    apply _h
    simp [overF, h']
  omega
def fieldF (s : List UInt8) (i : Int) : List UInt8 × Int × Int :=
  if i < s.length ∧ at' s i = 34 then quotF s (i + 1) [] else plainF s i []
def three (x : List UInt8 × Int × Int) : D := .tu [.s x.1, .i .i64 x.2.1, .i .i64 x.2.2]
theorem ziK (x : UInt8) (n : Nat) (h : n < 256) : (x.toNat : Int) = n ↔ x = UInt8.ofNat n := by
  constructor
  · intro h1
    have h2 : x.toNat = n := by exact_mod_cast h1
    apply UInt8.toNat.inj
    simp [h2]; omega
  · intro h1
    subst h1
    simp; omega
theorem zbq (l : List UInt8) : bytesOf l.length (bytesF l) = l := by
  apply List.ext_getElem
  · simp [bytesOf]
  · intro n h1 h2
    simp [bytesOf, bytesF, byteOf, h2]
theorem zlZ (l : List UInt8) (x : UInt8) (g : Nat → List D) (hg : g 0 = [.i .u8 (x.toNat : Int)]) : catF l.length (bytesF l) 1 g = bytesF (l ++ [x]) := by
  funext j
  unfold catF
  by_cases h : j < l.length
  · rw [if_pos h]
    simp [bytesF, List.getD_eq_getElem?_getD, h, List.getElem?_append_left]
  · rw [if_neg h]
    by_cases h2 : j < l.length + 1
    · have : j = l.length := by omega
      subst this
      simp [hg, bytesF]
    · rw [if_neg h2]
      simp [bytesF, List.getD_eq_getElem?_getD, show l.length ≤ j by omega]
      rw [List.getElem?_eq_none (by simp; omega)]
      rfl
theorem zeE (k : Nat) (l : List UInt8) (x : UInt8) (g : Nat → List D) (hg : g 0 = [.i .u8 (x.toNat : Int)]) : D.gs k 1 (l.length + 1) (catF l.length (bytesF l) 1 g) = D.gs k 1 (l ++ [x]).length (bytesF (l ++ [x])) := by
  rw [zlZ l x g hg]
  simp
theorem zdl (s : List UInt8) (i : Int) : 0 ≤ endF s i ∧ endF s i ≤ 2 := by
  unfold endF
  split
  · omega
  · split <;> omega
theorem zgS (s : List UInt8) (i : Int) (h : i ≤ s.length) : i + endF s i ≤ s.length := by
  unfold endF
  split
  · omega
  · split <;> omega
theorem znu (s : List UInt8) (i : Int) (hs : s.length ≤ 4611686018427387904) (hi : 0 ≤ i) (hi2 : i ≤ s.length + 2) : Ctr Tryz.prog 68 [.s s, .i .i64 i] (.i .i64 (endF s i)) := by
  refine zax Tryz.func68 rfl Tryz.ntmps68 Tryz.results68 rfl rfl fun X hL hX => ?_
  repeat' (first |with_reducible (first |refine zah ?_|refine zaa ?_|refine zag ?_|refine zad ?_|refine zan ?_|refine zai ?_|refine zam ?_)|refine zab rfl rfl True.intro ?_|refine zap rfl rfl rfl ?_|refine zaj rfl rfl rfl rfl True.intro ?_|refine zal rfl ?_|((first |refine zac rfl ?_ ?_|refine zak rfl rfl ?_ ?_)<;>intro<;>try (first |(exfalso;omega)))|((first |refine zab rfl rfl ?_ ?_|refine zaj rfl rfl rfl rfl ?_ ?_);focus (first |omega))|refine zaq rfl ?_|fail)
  all_goals (congr 1; grind [endF])
theorem zkj (s : List UInt8) (i : Int) (hs : s.length ≤ 4611686018427387904) (hi : 0 ≤ i) (_hi2 : i ≤ s.length + 1) : Ctr Tryz.prog 113 [.s s, .i .i64 i] (.b (overF s i)) := by
  refine zax Tryz.func113 rfl Tryz.ntmps113 Tryz.results113 rfl rfl fun X hL hX => ?_
  repeat' (first |with_reducible (first |refine zah ?_|refine zaa ?_|refine zag ?_|refine zad ?_|refine zan ?_)|refine zab rfl rfl True.intro ?_|refine zap rfl rfl rfl ?_|refine zaj rfl rfl rfl rfl True.intro ?_|((first |refine zak rfl rfl ?_ ?_)<;>intro)|((first |refine zaj rfl rfl rfl rfl ?_ ?_);focus (first |omega))|refine zaq rfl ?_|refine zaw (f := 68) rfl rfl rfl rfl Tryz.call68 rfl (znu s i hs hi (by omega)) ?_|fail)
  all_goals (congr 1; grind [overF])

theorem zdS (l : List UInt8) : ∀ i, i < l.length → ∃ n, bytesF l i = [.i .u8 n] := fun _ _ => ⟨_, rfl⟩
section
variable {s : List UInt8} {j : Int} {b : List UInt8}
theorem zkT (h : j < s.length) (h2 : ¬ at' s j = 34) : quotF s j b = quotF s (j + 1) (b ++ [s.getD j.toNat 0]) := by
  conv => lhs; unfold quotF
  rw [dif_pos h, if_pos h2]
theorem zmJ (h : j < s.length) (h2 : at' s j = 34) (h3 : j + 1 < s.length) (h4 : at' s (j + 1) = 34) : quotF s j b = quotF s (j + 2) (b ++ [34]) := by
  conv => lhs; unfold quotF
  rw [dif_pos h, if_neg (by simpa using h2), if_pos ⟨h3, h4⟩]
theorem zdj (h : j < s.length) (h2 : at' s j = 34) (h3 : j + 1 < s.length → ¬ at' s (j + 1) = 34) : quotF s j b = if overF s (j + 1) then (b, j + 1, 0) else ([], j + 1, 3) := by
  conv => lhs; unfold quotF
  rw [dif_pos h, if_neg (by simpa using h2), if_neg (fun h => h3 h.1 h.2)]
theorem zky (h : ¬ j < s.length) : quotF s j b = ([], j, 2) := by
  conv => lhs; unfold quotF
  rw [dif_neg h]
theorem zfk (h : overF s j = true) : plainF s j b = (b, j, 0) := by
  conv => lhs; unfold plainF
  rw [dif_pos h]
theorem zcO (h : overF s j = false) (h2 : at' s j = 34 ∨ at' s j = 13) : plainF s j b = ([], j, 3) := by
  conv => lhs; unfold plainF
  rw [dif_neg (by simp [h]), if_pos h2]
theorem zfj (h : overF s j = false) (h2 : ¬ at' s j = 34) (h3 : ¬ at' s j = 13) : plainF s j b = plainF s (j + 1) (b ++ [s.getD j.toNat 0]) := by
  conv => lhs; unfold plainF
  rw [dif_neg (by simp [h]), if_neg (by simp [h2, h3])]
theorem zeu (h : overF s j = false) : j < s.length := by
  simp [overF] at h
  omega
end
theorem zkE (s : List UInt8) (i : Int) (hs : s.length ≤ 1099511627776) (hi : 0 ≤ i) (hi2 : i ≤ s.length) : Ctr Tryz.prog 67 [.s s, .i .i64 i] (three (fieldF s i)) := by
  refine zax Tryz.func67 rfl Tryz.ntmps67 Tryz.results67 rfl rfl fun X hL hX => ?_
  repeat' (first |with_reducible (first |refine zah ?_|refine zaa ?_|refine zag ?_|refine zad ?_|refine zai ?_|refine zaf ?_)|refine zab rfl rfl True.intro ?_|refine zap rfl rfl rfl ?_|refine zaj rfl rfl rfl rfl True.intro ?_|refine zal rfl ?_|((first |refine zac rfl ?_ ?_|refine zak rfl rfl ?_ ?_)<;>intro)|((first |refine zab rfl rfl ?_ ?_|refine zaj rfl rfl rfl rfl ?_ ?_);focus (first |omega))|fail)
  · refine T.adopt 7 7 5 1 (bytesF []) rfl rfl ?_
    refine T.loop hL (fun x : Int × List UInt8 => [(0, .s s), (1, .i .i64 x.1), (7, .gs 7 1 x.2.length (bytesF x.2))]) (fun x => [(7, .row 5 1 x.2.length)])
      (fun x => 0 ≤ x.1 ∧ x.1 ≤ s.length ∧ x.2.length ≤ x.1.toNat ∧ quotF s x.1 x.2 = quotF s (i + 1) []) (fun x => (s.length - x.1).toNat) (i + 1, []) (by simp; omega)
      ⟨⟨rfl, rfl, rfl, trivial⟩, ⟨rfl, trivial⟩, rfl, by rw [hX]; simp⟩ ?_
    rintro ⟨j, b⟩ ⟨h1, h2, h3, h4⟩
    dsimp only at h1 h2 h3 h4 ⊢
    have hf : fieldF s i = quotF s (i + 1) [] := if_pos ⟨‹_›, ‹_›⟩
    repeat' (first |with_reducible (first |refine zah ?_|refine zaa ?_|refine zag ?_|refine zad ?_|refine zan ?_|refine zai ?_|refine zat ?_|refine zaf ?_|refine zao ?_|refine zas ?_|refine zam ?_|refine zaz ?_)|refine zab rfl rfl True.intro ?_|refine zap rfl rfl rfl ?_|refine zaj rfl rfl rfl rfl True.intro ?_|refine zal rfl ?_|((first |refine zac rfl ?_ ?_|refine zaR rfl ?_ ?_|refine zep rfl ?_ ?_|refine zak rfl rfl ?_ ?_)<;>intro)|((first |refine zab rfl rfl ?_ ?_|refine zaj rfl rfl rfl rfl ?_ ?_|refine zav rfl rfl ?_ ?_);focus (first |omega|(simp_all;omega)|((repeat' refine And.intro ?_ ?_)<;>first |omega|rfl|exact zdS _)))|refine zaB rfl ?_|refine zaq rfl ?_|refine zae (f := 113) rfl rfl Tryz.call113 rfl (zkj s (j + 1) (by omega) (by omega) (by omega)) ?_|fail)
    · exact ⟨(j + 1, b ++ [s.getD j.toNat 0]), ⟨by dsimp only; omega, by dsimp only; omega, by simp; omega, by rw [← h4]; exact (zkT ‹_› ‹_›).symm⟩, by dsimp only; omega,
        ⟨rfl, rfl, zeE 7 b _ _ rfl, trivial⟩, ⟨by rw [List.length_append]; rfl, trivial⟩, rfl, by rw [hX]; simp⟩
    · exact ⟨(j + 2, b ++ [34]), ⟨by dsimp only; omega, by dsimp only; omega, by simp; omega, by rw [← h4]; exact (zmJ ‹_› ‹_› ‹_› ‹_›).symm⟩, by dsimp only; omega,
        ⟨rfl, rfl, zeE 7 b _ _ rfl, trivial⟩, ⟨by rw [List.length_append]; rfl, trivial⟩, rfl, by rw [hX]; simp⟩
    · rw [hf, ← h4, zdj ‹_› ‹_› (fun _ => ‹_›), zbq, if_pos ‹_›]; rfl
    · rw [hf, ← h4, zdj ‹_› ‹_› (fun _ => ‹_›), if_neg (by simp [*])]; rfl
    · rw [hf, ← h4, zdj ‹_› ‹_› (fun _ => by omega), zbq, if_pos ‹_›]; rfl
    · rw [hf, ← h4, zdj ‹_› ‹_› (fun _ => by omega), if_neg (by simp [*])]; rfl
    · rw [hf, ← h4, zky ‹_›]; rfl
  all_goals
    refine T.adopt 7 7 5 1 (bytesF []) rfl rfl ?_
    have hf : fieldF s i = plainF s i [] := if_neg (by rintro ⟨_, _⟩; contradiction)
    refine T.loop hL (fun x : Int × List UInt8 => [(0, .s s), (1, .i .i64 x.1), (7, .gs 7 1 x.2.length (bytesF x.2))]) (fun x => [(7, .row 5 1 x.2.length)])
      (fun x => 0 ≤ x.1 ∧ x.1 ≤ s.length ∧ x.2.length ≤ x.1.toNat ∧ plainF s x.1 x.2 = plainF s i []) (fun x => (s.length - x.1).toNat) (i, []) (by simp; omega)
      ⟨⟨rfl, rfl, rfl, trivial⟩, ⟨rfl, trivial⟩, rfl, by rw [hX]; simp⟩ ?_
    rintro ⟨j, b⟩ ⟨h1, h2, h3, h4⟩
    dsimp only at h1 h2 h3 h4 ⊢
    have hj : overF s j = false → j < s.length := zeu
    repeat' (first |with_reducible (first |refine zah ?_|refine zaa ?_|refine zag ?_|refine zad ?_|refine zan ?_|refine zai ?_|refine zat ?_|refine zaf ?_|refine zao ?_|refine zas ?_|refine zam ?_|refine zaz ?_)|refine zab rfl rfl True.intro ?_|refine zap rfl rfl rfl ?_|refine zaj rfl rfl rfl rfl True.intro ?_|refine zau rfl ?_|((first |refine zac rfl ?_ ?_|refine zaS rfl ?_ ?_|refine zak rfl rfl ?_ ?_)<;>intro)|((first |refine zab rfl rfl ?_ ?_|refine zaj rfl rfl rfl rfl ?_ ?_|refine zav rfl rfl ?_ ?_);focus (first |omega|(simp_all;done)|(simp_all;omega)|((repeat' refine And.intro ?_ ?_)<;>first |omega|rfl|exact zdS _)))|refine zaB rfl ?_|refine zaq rfl ?_|refine zae (f := 113) rfl rfl Tryz.call113 rfl (zkj s j (by omega) (by omega) (by omega)) ?_|fail)
    · rw [hf, ← h4, zcO ‹_› (.inl ‹_›)]; rfl
    · rw [hf, ← h4, zcO ‹_› (.inr ‹_›)]; rfl
    · have := hj ‹_›
      exact ⟨(j + 1, b ++ [s.getD j.toNat 0]), ⟨by dsimp only; omega, by dsimp only; omega, by simp; omega, by rw [← h4]; exact (zfj ‹_› ‹_› ‹_›).symm⟩, by dsimp only; omega,
        ⟨rfl, rfl, zeE 7 b _ _ rfl, trivial⟩, ⟨by rw [List.length_append]; rfl, trivial⟩, rfl, by rw [hX]; simp⟩
    · rw [hf, ← h4, zfk ‹_›, zbq]; rfl

theorem zjh {s : List UInt8} {j : Int} (h : overF s j = true) (h1 : j < s.length) (h2 : ¬ at' s j = 44) : 0 < endF s j := by
  simp [overF] at h
  omega
theorem zlq (s : List UInt8) (j : Int) (b : List UInt8) (hj : 0 ≤ j) (hj2 : j ≤ s.length) : j ≤ (quotF s j b).2.1 ∧ (quotF s j b).2.1 ≤ s.length ∧ ((quotF s j b).2.2 = 0 → overF s (quotF s j b).2.1 = true) := by
  fun_induction quotF s j b <;> grind
theorem ziN (s : List UInt8) (j : Int) (b : List UInt8) (hj : 0 ≤ j) (hj2 : j ≤ s.length) : j ≤ (plainF s j b).2.1 ∧ (plainF s j b).2.1 ≤ s.length ∧ ((plainF s j b).2.2 = 0 → overF s (plainF s j b).2.1 = true) := by
  fun_induction plainF s j b with
  | case1 => grind
  | case2 => grind
  | case3 j b h1 h2 ih =>
    have := zeu (s := s) (j := j) (by simpa using h1)
    grind
theorem zbe (s : List UInt8) (j : Int) (hj : 0 ≤ j) (hj2 : j ≤ s.length) : j ≤ (fieldF s j).2.1 ∧ (fieldF s j).2.1 ≤ s.length ∧ ((fieldF s j).2.2 = 0 → overF s (fieldF s j).2.1 = true) := by
  unfold fieldF
  split
  · rename_i h
    have := zlq s (j + 1) [] (by omega) (by omega)
    exact ⟨by omega, this.2⟩
  · exact ziN s j [] hj hj2
def rowG (s : List UInt8) (i : Int) (l : List (List UInt8)) : List (List UInt8) × Int × Int :=
  let f := fieldF s i
  if f.2.2 ≠ 0 then ([], f.2.1, f.2.2)
  else if _h : (0 ≤ i ∧ i ≤ s.length) ∧ f.2.1 < s.length ∧ at' s f.2.1 = 44 then rowG s (f.2.1 + 1) (l ++ [f.1])
  else (l ++ [f.1], f.2.1, 0)
termination_by (s.length + 1 - i).toNat
decreasing_by
  have := zbe s i _h.1.1 _h.1.2
  omega
theorem zjF {s : List UInt8} {i : Int} {l : List (List UInt8)} (h : ¬ (fieldF s i).2.2 = 0) : rowG s i l = ([], (fieldF s i).2.1, (fieldF s i).2.2) := by
  conv => lhs; unfold rowG
  exact if_pos h
theorem zhH {s : List UInt8} {i : Int} {l : List (List UInt8)} (hi : 0 ≤ i) (hi2 : i ≤ s.length) (h : (fieldF s i).2.2 = 0) (h1 : (fieldF s i).2.1 < s.length) (h2 : at' s (fieldF s i).2.1 = 44) : rowG s i l = rowG s ((fieldF s i).2.1 + 1) (l ++ [(fieldF s i).1]) := by
  conv => lhs; unfold rowG
  dsimp only
  rw [if_neg (by simpa using h), dif_pos ⟨⟨hi, hi2⟩, h1, h2⟩]
theorem zjP {s : List UInt8} {i : Int} {l : List (List UInt8)} (h : (fieldF s i).2.2 = 0) (h1 : (fieldF s i).2.1 < s.length → ¬ at' s (fieldF s i).2.1 = 44) : rowG s i l = (l ++ [(fieldF s i).1], (fieldF s i).2.1, 0) := by
  conv => lhs; unfold rowG
  dsimp only
  rw [if_neg (by simpa using h), dif_neg (fun h => h1 h.2.1 h.2.2)]
theorem zdv (s : List UInt8) (i : Int) (l : List (List UInt8)) (hi : 0 ≤ i) (hi2 : i ≤ s.length) : i ≤ (rowG s i l).2.1 ∧ (rowG s i l).2.1 ≤ s.length ∧ ((rowG s i l).2.2 = 0 → (rowG s i l).2.1 < s.length → 0 < endF s (rowG s i l).2.1) := by
  fun_induction rowG s i l with
  | case1 i l f h => have := zbe s i hi hi2; grind
  | case2 i l f h1 h2 ih => have := zbe s i hi hi2; grind
  | case3 i l f h1 h2 =>
    have := zbe s i hi hi2
    have h3 := zjh (s := s) (j := f.2.1)
    grind
def tabG (s : List UInt8) (i : Int) (rows : List (List (List UInt8))) : List (List (List UInt8)) × Int × Int :=
  if _h : 0 ≤ i ∧ i < s.length then
    if rows.length = 65536 then ([], i, 9)
    else if _h2 : (rowG s i []).2.2 = 0 then
      if 0 < rows.length ∧ ¬ (rows.getD 0 []).length = (rowG s i []).1.length then ([], i, 3)
      else tabG s ((rowG s i []).2.1 + endF s (rowG s i []).2.1) (rows ++ [(rowG s i []).1])
    else ([], (rowG s i []).2.1, (rowG s i []).2.2)
  else (rows, s.length, 0)
termination_by (s.length - i).toNat
decreasing_by
  have := zdv s i [] _h.1 (by omega)
  have := zdl s (rowG s i []).2.1
  grind
section
variable {s : List UInt8} {i : Int} {rows : List (List (List UInt8))}
theorem zir (h : ¬ i < s.length) : tabG s i rows = (rows, (s.length : Int), 0) := by
  conv => lhs; unfold tabG
  rw [dif_neg (fun x => h x.2)]
theorem zhN (hi : 0 ≤ i) (h : i < s.length) (h1 : rows.length = 65536) : tabG s i rows = ([], i, 9) := by
  conv => lhs; unfold tabG
  rw [dif_pos ⟨hi, h⟩, if_pos h1]
theorem zju (hi : 0 ≤ i) (h : i < s.length) (h1 : ¬ rows.length = 65536) (h2 : ¬ (rowG s i []).2.2 = 0) : tabG s i rows = ([], (rowG s i []).2.1, (rowG s i []).2.2) := by
  conv => lhs; unfold tabG
  rw [dif_pos ⟨hi, h⟩, if_neg h1, dif_neg h2]
theorem zie (hi : 0 ≤ i) (h : i < s.length) (h1 : ¬ rows.length = 65536) (h2 : (rowG s i []).2.2 = 0) (h3 : 0 < rows.length) (h4 : ¬ (rows.getD 0 []).length = (rowG s i []).1.length) : tabG s i rows = ([], i, 3) := by
  conv => lhs; unfold tabG
  rw [dif_pos ⟨hi, h⟩, if_neg h1, dif_pos h2, if_pos ⟨h3, h4⟩]
theorem zhp (hi : 0 ≤ i) (h : i < s.length) (h1 : ¬ rows.length = 65536) (h2 : (rowG s i []).2.2 = 0) (h3 : 0 < rows.length → (rows.getD 0 []).length = (rowG s i []).1.length) :
    tabG s i rows = tabG s ((rowG s i []).2.1 + endF s (rowG s i []).2.1) (rows ++ [(rowG s i []).1]) := by
  conv => lhs; unfold tabG
  rw [dif_pos ⟨hi, h⟩, if_neg h1, dif_pos h2, if_neg (fun x => x.2 (h3 x.1))]
end
def parseG (s : List UInt8) : List (List (List UInt8)) × Int × Int := if (1048576 : Int) < s.length then ([], 0, 5) else tabG s 0 []
def rowF (l : List (List UInt8)) : Nat → List D := fun i => [.s (l.getD i [])]
def tabF (t : List (List (List UInt8))) : Nat → List D := fun i => [.sl 1 (t.getD i []).length (rowF (t.getD i []))]
theorem gs_row (k : Nat) (l : List (List UInt8)) (x : List UInt8) (g : Nat → List D) (hg : g 0 = [.s x]) : D.gs k 1 (l.length + 1) (catF l.length (rowF l) 1 g) = D.gs k 1 (l ++ [x]).length (rowF (l ++ [x])) := by
  have : catF l.length (rowF l) 1 g = rowF (l ++ [x]) := by
    funext j
    unfold catF
    by_cases h : j < l.length
    · rw [if_pos h]
      simp [rowF, List.getD_eq_getElem?_getD, h, List.getElem?_append_left]
    · rw [if_neg h]
      by_cases h2 : j < l.length + 1
      · have : j = l.length := by omega
        subst this
        simp [hg, rowF]
      · rw [if_neg h2]
        simp [rowF, List.getD_eq_getElem?_getD, show l.length ≤ j by omega]
        rw [List.getElem?_eq_none (by simp; omega)]
        rfl
  rw [this]
  simp
theorem zfK (k : Nat) (l : List (List (List UInt8))) (x : List (List UInt8)) (g : Nat → List D) (hg : g 0 = [.sl 1 x.length (rowF x)]) : D.gs k 1 (l.length + 1) (catF l.length (tabF l) 1 g) = D.gs k 1 (l ++ [x]).length (tabF (l ++ [x])) := by
  have : catF l.length (tabF l) 1 g = tabF (l ++ [x]) := by
    funext j
    unfold catF
    by_cases h : j < l.length
    · rw [if_pos h]
      simp [tabF, List.getD_eq_getElem?_getD, h, List.getElem?_append_left]
    · rw [if_neg h]
      by_cases h2 : j < l.length + 1
      · have : j = l.length := by omega
        subst this
        simp [hg, tabF]
      · rw [if_neg h2]
        simp [tabF, List.getD_eq_getElem?_getD, show l.length ≤ j by omega]
        rw [List.getElem?_eq_none (by simp; omega)]
        simp
  rw [this]
  simp
theorem zms (l : List (List UInt8)) (x : List UInt8) (g : Nat → List D) (hg : g 0 = [.s x]) : D.sl 1 (l.length + 1) (catF l.length (rowF l) 1 g) = D.sl 1 (l ++ [x]).length (rowF (l ++ [x])) := by
  have := gs_row 0 l x g hg
  injection this with _ _ h1 h2
  rw [h1, h2]
def parsed (x : List (List (List UInt8)) × Int × Int) : D := .tu [.sl 1 x.1.length (tabF x.1), .i .i64 x.2.1, .i .i64 x.2.2]
end Go.Proofs.YtkkaamhocpmhkaaGreatDoor.Flow.Csv

namespace Go.Proofs.YtkkaamhocpmhkaaGreatDoor.Flow
open Go
abbrev Tx := List UInt8
structure JnR where
  key : Tx
  attr : Tx
  only : List Tx
  notl : List Tx
  texts : Bool
  drop : Bool
def jnP (j : JnR) : List D := [.s j.key, .s j.attr, .sl 1 j.only.length (Csv.rowF j.only), .sl 1 j.notl.length (Csv.rowF j.notl), .b j.texts, .b j.drop]
end Go.Proofs.YtkkaamhocpmhkaaGreatDoor.Flow

namespace Go.Proofs.YtkkaamhocpmhkaaGreatDoor.Flow.Csv
open Go
set_option maxHeartbeats 4000000 in
theorem rparse_ctr (s : List UInt8) (hs : s.length ≤ 1099511627776) : Ctr Tryz.prog 34 [.s s] (parsed (parseG s)) := by
  refine zax Tryz.func34 rfl Tryz.ntmps34 Tryz.results34 rfl rfl fun X hL hX => ?_
  repeat' (first |with_reducible (first |refine zah ?_|refine zaa ?_|refine zag ?_|refine zad ?_|refine zan ?_|refine zai ?_|refine zaf ?_|refine zam ?_)|refine zab rfl rfl True.intro ?_|((first |refine zac rfl ?_ ?_)<;>intro)|refine zbN rfl ?_|fail)
  · rw [parseG, if_pos ‹_›]; exact .tu3 (.nil ..) (.refl _) (.refl _)
  · have hp : parseG s = tabG s 0 [] := if_neg ‹_›
    refine T.adopt 5 5 22 1 (tabF []) rfl rfl ?_
    refine T.loop hL (fun x : Int × List (List (List UInt8)) => [(0, .s s), (6, .i .i64 x.1), (5, .gs 5 1 x.2.length (tabF x.2))]) (fun x => [(5, .row 22 1 x.2.length)])
      (fun x => 0 ≤ x.1 ∧ x.1 ≤ s.length ∧ x.2.length ≤ x.1.toNat ∧ tabG s x.1 x.2 = tabG s 0 []) (fun x => (s.length - x.1).toNat) (0, []) (by simp)
      ⟨⟨rfl, rfl, rfl, trivial⟩, ⟨rfl, trivial⟩, rfl, by rw [hX]; simp⟩ ?_
    rintro ⟨i, rows⟩ ⟨h1, h2, h3, h4⟩
    dsimp only at h1 h2 h3 h4 ⊢
    repeat' (first |with_reducible (first |refine zah ?_|refine zaa ?_|refine zag ?_|refine zad ?_|refine zan ?_|refine zai ?_|refine zat ?_|refine zaf ?_|refine zas ?_|refine zam ?_|refine zaz ?_)|refine zab rfl rfl True.intro ?_|((first |refine zac rfl ?_ ?_)<;>intro)|refine zaB rfl ?_|refine zbN rfl ?_|fail)
    · rw [hp, ← h4, zhN ‹_› ‹_› (by omega)]; exact .tu3 (.nil ..) (.refl _) (.refl _)
    · refine T.adopt 8 8 9 1 (rowF []) rfl rfl ?_
      have hlt : i < s.length := ‹_›
      have hne : ¬ rows.length = 65536 := by omega
      have hsp0 := zdv s i [] h1 h2
      refine T.loop hL (fun x : Int × List (List UInt8) => [(0, .s s), (5, .gs 5 1 rows.length (tabF rows)), (6, .i .i64 x.1), (7, .i .i64 i), (8, .gs 8 1 x.2.length (rowF x.2))]) (fun x => [(5, .row 22 1 rows.length), (8, .row 9 1 x.2.length)])
        (fun x => 0 ≤ x.1 ∧ x.1 ≤ s.length ∧ x.2.length ≤ x.1.toNat ∧ rowG s x.1 x.2 = rowG s i []) (fun x => (s.length + 1 - x.1).toNat) (i, []) (by simp; omega)
        ⟨⟨rfl, rfl, rfl, rfl, rfl, trivial⟩, ⟨rfl, rfl, trivial⟩, rfl, by rw [hX]; simp⟩ ?_
      rintro ⟨j, l⟩ ⟨g1, g2, g3, g4⟩
      dsimp only at g1 g2 g3 g4 ⊢
      have hsp := zbe s j g1 g2
      have hen := zdl s (fieldF s j).2.1
      have hbad : ¬ (fieldF s j).2.2 = 0 → rowG s i [] = ([], (fieldF s j).2.1, (fieldF s j).2.2) := fun h => by rw [← g4, zjF h]
      have hgood : (fieldF s j).2.2 = 0 → ((fieldF s j).2.1 < s.length → ¬ at' s (fieldF s j).2.1 = 44) → rowG s i [] = (l ++ [(fieldF s j).1], (fieldF s j).2.1, 0) := fun h h' => by rw [← g4, zjP h h']
      have hle := zgS s (fieldF s j).2.1 hsp.2.1
      have hform : rowG s i [] = (l ++ [(fieldF s j).1], (fieldF s j).2.1, 0) → 0 < (rows.length : Int) → ¬ ((rows.getD (Int.toNat 0) []).length : Int) = ((l.length + 1 : Nat) : Int) → parseG s = ([], i, 3) := fun h h2 h3 => by
        rw [hp, ← h4]
        refine zie h1 hlt hne (by rw [h]) (by omega) ?_
        rw [h]
        simp only [List.length_append, List.length_cons, List.length_nil]
        intro h4
        exact h3 (by exact_mod_cast h4)
      have hmore : rowG s i [] = (l ++ [(fieldF s j).1], (fieldF s j).2.1, 0) → (0 < (rows.length : Int) → ((rows.getD (Int.toNat 0) []).length : Int) = ((l.length + 1 : Nat) : Int)) →
          ∃ y : Int × List (List (List UInt8)), (0 ≤ y.1 ∧ y.1 ≤ s.length ∧ y.2.length ≤ y.1.toNat ∧ tabG s y.1 y.2 = tabG s 0 []) ∧ (s.length - y.1).toNat < (s.length - i).toNat ∧ y = ((fieldF s j).2.1 + endF s (fieldF s j).2.1, rows ++ [l ++ [(fieldF s j).1]]) := fun h h2 => by
        have e := zhp h1 hlt hne (by rw [h]) (rows := rows) (fun h3 => by rw [h]; have := h2 (by omega); simp only [List.length_append, List.length_cons, List.length_nil]; exact_mod_cast this)
        rw [h] at e hsp0
        dsimp only at e hsp0
        have := hsp0.2.2 rfl
        exact ⟨_, ⟨by dsimp only; omega, by dsimp only; omega, by simp; omega, by rw [← h4, e]⟩, by dsimp only; omega, rfl⟩
      have hrow : D.sl 1 (l.length + 1) (catF l.length (rowF l) 1 (chunk 1 [D.s (fieldF s j).1])) = .sl 1 (l ++ [(fieldF s j).1]).length (rowF (l ++ [(fieldF s j).1])) := zms _ _ _ rfl
      repeat' (first |with_reducible (first |refine zah ?_|refine zaa ?_|refine zag ?_|refine zad ?_|refine zan ?_|refine zai ?_|refine zat ?_|refine zaf ?_|refine zao ?_|refine zas ?_|refine zam ?_|refine zaz ?_)|refine zab rfl rfl True.intro ?_|refine zap rfl rfl rfl ?_|refine zaj rfl rfl rfl rfl True.intro ?_|refine zau rfl ?_|refine zal rfl ?_|((first |refine zaR rfl ?_ ?_|refine zak rfl rfl ?_ ?_)<;>intro)|((first |refine zab rfl rfl ?_ ?_|refine zaj rfl rfl rfl rfl ?_ ?_|refine zav rfl rfl ?_ ?_);focus (first |omega|exact le_ rfl|(simp_all;done)|(simp_all;omega)|((repeat' refine And.intro ?_ ?_)<;>first |omega|rfl)))|refine zaB rfl ?_|refine zel rfl ?_|refine zbN rfl ?_|refine zae (f := 67) rfl rfl Tryz.call67 rfl (zkE s j (by omega) (by omega) (by omega)) ?_|refine zae (f := 68) rfl rfl Tryz.call68 rfl (znu s (fieldF s j).2.1 (by omega) (by omega) (by omega)) ?_|fail)
      · have := hbad ‹_›
        rw [hp, ← h4, zju h1 hlt hne (by rw [this]; assumption), this]; exact .tu3 (.nil ..) (.refl _) (.refl _)
      · rw [hform (hgood ‹_› (fun _ => by omega)) ‹_› ‹_›]; exact .tu3 (.nil ..) (.refl _) (.refl _)
      · obtain ⟨y, k1, k2, rfl⟩ := hmore (hgood ‹_› (fun _ => by omega)) (fun _ => ‹_›)
        exact ⟨_, k1, k2, ⟨rfl, rfl, zfK 5 rows _ _ (congrArg (fun d => [d]) hrow), trivial⟩, ⟨by rw [List.length_append]; rfl, trivial⟩, rfl, by rw [hX]; simp⟩
      · obtain ⟨y, k1, k2, rfl⟩ := hmore (hgood ‹_› (fun _ => by omega)) (fun _ => by omega)
        exact ⟨_, k1, k2, ⟨rfl, rfl, zfK 5 rows _ _ (congrArg (fun d => [d]) hrow), trivial⟩, ⟨by rw [List.length_append]; rfl, trivial⟩, rfl, by rw [hX]; simp⟩
      · rw [hform (hgood ‹_› (fun _ => by assumption)) ‹_› ‹_›]; exact .tu3 (.nil ..) (.refl _) (.refl _)
      · obtain ⟨y, k1, k2, rfl⟩ := hmore (hgood ‹_› (fun _ => by assumption)) (fun _ => ‹_›)
        exact ⟨_, k1, k2, ⟨rfl, rfl, zfK 5 rows _ _ (congrArg (fun d => [d]) hrow), trivial⟩, ⟨by rw [List.length_append]; rfl, trivial⟩, rfl, by rw [hX]; simp⟩
      · obtain ⟨y, k1, k2, rfl⟩ := hmore (hgood ‹_› (fun _ => by assumption)) (fun _ => by omega)
        exact ⟨_, k1, k2, ⟨rfl, rfl, zfK 5 rows _ _ (congrArg (fun d => [d]) hrow), trivial⟩, ⟨by rw [List.length_append]; rfl, trivial⟩, rfl, by rw [hX]; simp⟩
      · have e : rowG s ((fieldF s j).2.1 + 1) (l ++ [(fieldF s j).1]) = rowG s i [] := by rw [← g4]; exact (zhH g1 g2 ‹_› (by omega) ‹_›).symm
        exact ⟨((fieldF s j).2.1 + 1, l ++ [(fieldF s j).1]), ⟨by dsimp only; omega, by dsimp only; omega, by simp; omega, e⟩, by dsimp only; omega,
          ⟨rfl, rfl, rfl, rfl, gs_row 8 l _ _ rfl, trivial⟩, ⟨rfl, by rw [List.length_append]; rfl, trivial⟩, rfl, by rw [hX]; simp⟩
    · rw [hp, ← h4, zir ‹_›]; exact .refl _

def idxI (n : List UInt8) : List (List UInt8) → Int
  | [] => -1
  | a :: r => if a = n then 0 else if idxI n r < 0 then -1 else idxI n r + 1
theorem idxI_hit {n : List UInt8} : ∀ {l : List (List UInt8)} {i : Nat}, (∀ j, j < i → ¬ l.getD j [] = n) → i < l.length → l.getD i [] = n → idxI n l = i
  | [], _, _, h, _ => by simp at h
  | a :: r, 0, _, _, h => by simp only [List.getD_cons_zero] at h; simp [idxI, h]
  | a :: r, i + 1, h1, h2, h3 => by
    have h0 := h1 0 (by omega)
    simp only [List.getD_cons_zero] at h0
    have ih := idxI_hit (n := n) (l := r) (i := i) (fun j hj => by have := h1 (j + 1) (by omega); simpa using this) (by simpa using h2) (by simpa using h3)
    simp only [idxI, if_neg h0, ih]
    rw [if_neg (by omega)]
    omega
theorem idxI_miss {n : List UInt8} : ∀ {l : List (List UInt8)}, (∀ j, j < l.length → ¬ l.getD j [] = n) → idxI n l = -1
  | [], _ => rfl
  | a :: r, h1 => by
    have h0 := h1 0 (by simp)
    simp only [List.getD_cons_zero] at h0
    have ih := idxI_miss (n := n) (l := r) (fun j hj => by have := h1 (j + 1) (by simpa using hj); simpa using this)
    simp only [idxI, if_neg h0, ih]
    rw [if_pos (by omega)]
set_option maxHeartbeats 4000000 in
theorem index_ctr (l : List (List UInt8)) (n : List UInt8) (hl : l.length ≤ 1099511627776) : Ctr Tryz.prog 63 [.sl 1 l.length (rowF l), .s n] (.i .i64 (idxI n l)) := by
  refine zax Tryz.func63 rfl Tryz.ntmps63 Tryz.results63 rfl rfl fun X hL hX => ?_
  repeat' (first |with_reducible (first |refine zah ?_|refine zaa ?_|refine zag ?_|refine zad ?_|refine zaf ?_)|refine zab rfl rfl True.intro ?_|fail)
  refine T.loop hL (fun i : Nat => [(0, .sl 1 l.length (rowF l)), (1, .s n), (7, .i .i64 l.length), (8, .i .i64 i)]) (fun _ => [])
    (fun i => i ≤ l.length ∧ ∀ j, j < i → ¬ l.getD j [] = n) (fun i => l.length - i) 0 ⟨by omega, by simp⟩
    ⟨⟨rfl, rfl, rfl, rfl, trivial⟩, trivial, rfl, by rw [hX]; simp⟩ ?_
  rintro i ⟨h1, h2⟩
  try dsimp only at h1 h2 ⊢
  repeat' (first |with_reducible (first |refine zah ?_|refine zaa ?_|refine zag ?_|refine zad ?_|refine zan ?_|refine zai ?_|refine zat ?_|refine zaf ?_|refine zao ?_|refine zas ?_|refine zam ?_|refine zaz ?_)|refine zab rfl rfl True.intro ?_|((first |refine zac rfl ?_ ?_|refine zaQ rfl ?_ ?_)<;>intro)|((first |refine zab rfl rfl ?_ ?_);focus (first |omega|exact le_ rfl))|refine zaB rfl ?_|refine zaq rfl ?_|fail)
  · rename_i hi he
    simp only [Int.toNat_natCast] at *
    exact congrArg (D.i .i64) (idxI_hit h2 (by omega) he.symm).symm
  · rename_i hi he
    simp only [Int.toNat_natCast] at *
    exact ⟨i + 1, ⟨by omega, fun j hj => by
      by_cases e : j = i
      · subst e; exact fun h => he h.symm
      · exact h2 j (by omega)⟩, by omega, ⟨rfl, rfl, rfl, rfl, trivial⟩, trivial, rfl, by rw [hX]; simp⟩
  · exact congrArg (D.i .i64) (idxI_miss (fun j hj => h2 j (by omega))).symm
def colI (a : List (List (List UInt8))) (n : List UInt8) : Int :=
  match a with
  | [] => -1
  | r :: _ => idxI n r
theorem zkr {a : List (List (List UInt8))} {n : List UInt8} (h : a.length = 0) : colI a n = -1 := by
  have : a = [] := List.eq_nil_of_length_eq_zero h
  subst this
  rfl
theorem zft {a : List (List (List UInt8))} {n : List UInt8} (h : 0 < a.length) : colI a n = idxI n (a.getD 0 []) := by
  cases a with
  | nil => simp at h
  | cons r a => rfl
set_option maxHeartbeats 4000000 in
theorem column_ctr (a : List (List (List UInt8))) (n : List UInt8) (ha : a.length ≤ 1099511627776) (h0 : (a.getD 0 []).length ≤ 1099511627776) :
    Ctr Tryz.prog 30 [.sl 1 a.length (tabF a), .s n] (.tu [.i .i64 (max (colI a n) 0), .b (decide (0 ≤ colI a n))]) := by
  refine zax Tryz.func30 rfl Tryz.ntmps30 Tryz.results30 rfl rfl fun X hL hX => ?_
  have hi := index_ctr (a.getD 0 []) n h0
  repeat' (first |with_reducible (first |refine zah ?_|refine zaa ?_|refine zag ?_|refine zad ?_|refine zan ?_|refine zai ?_|refine zam ?_)|refine zab rfl rfl True.intro ?_|((first |refine zac rfl ?_ ?_)<;>intro)|((first |refine zab rfl rfl ?_ ?_);focus (first |omega|exact le_ rfl))|refine zaq rfl ?_|refine zae (f := 63) rfl rfl Tryz.call63 rfl hi ?_|fail)
  · rw [zkr (by omega)]
    rfl
  · rw [zft (by omega)]
set_option maxHeartbeats 4000000 in
theorem rcolumn_ctr (a : List (List (List UInt8))) (n : List UInt8) (ha : a.length ≤ 1099511627776) (h0 : (a.getD 0 []).length ≤ 1099511627776) :
    Ctr Tryz.prog 43 [.sl 1 a.length (tabF a), .s n] (.tu [.i .i64 (max (colI a n) 0), .b (decide (0 ≤ colI a n))]) := by
  refine zax Tryz.func43 rfl Tryz.ntmps43 Tryz.results43 rfl rfl fun X hL hX => ?_
  repeat' (first |with_reducible (first |refine zah ?_|refine zaa ?_|refine zag ?_|refine zad ?_|refine zaf ?_)|refine zab rfl rfl True.intro ?_|fail)
  refine T.loop hL (fun i : Nat => [(0, .sl 1 a.length (tabF a)), (1, .s n), (6, .i .i64 i)]) (fun _ => [])
    (fun i => i ≤ (a.getD 0 []).length ∧ ∀ j, j < i → ¬ (a.getD 0 []).getD j [] = n) (fun i => (a.getD 0 []).length - i) 0 ⟨by omega, by simp⟩
    ⟨⟨rfl, rfl, rfl, trivial⟩, trivial, rfl, by rw [hX]; simp⟩ ?_
  rintro i ⟨h1, h2⟩
  try dsimp only at h1 h2 ⊢
  have hit : 0 < a.length → i < (a.getD 0 []).length → (a.getD 0 []).getD i [] = n → D.tu [.i .i64 i, .b true] = D.tu [.i .i64 (max (colI a n) 0), .b (decide (0 ≤ colI a n))] := fun ha hi he => by
    have e : colI a n = i := by rw [zft ha]; exact idxI_hit h2 hi he
    rw [e]
    have e2 : max (i : Int) 0 = i := by omega
    rw [e2, decide_eq_true (by omega)]
  have miss : (0 < a.length → (a.getD 0 []).length ≤ i) → D.tu [.i .i64 0, .b false] = D.tu [.i .i64 (max (colI a n) 0), .b (decide (0 ≤ colI a n))] := fun hm => by
    have e : colI a n = -1 := by
      rcases Nat.eq_zero_or_pos a.length with h | h
      · exact zkr h
      · rw [zft h]
        exact idxI_miss (fun j hj => h2 j (by have := hm h; omega))
    rw [e]
    rfl
  repeat' (first |with_reducible (first |refine zah ?_|refine zaa ?_|refine zag ?_|refine zad ?_|refine zan ?_|refine zai ?_|refine zat ?_|refine zaf ?_|refine zao ?_|refine zas ?_|refine zam ?_|refine zaz ?_)|refine zab rfl rfl True.intro ?_|refine zap rfl rfl rfl ?_|refine zaj rfl rfl rfl rfl True.intro ?_|refine zal rfl ?_|((first |refine zac rfl ?_ ?_|refine zaQ rfl ?_ ?_|refine zak rfl rfl ?_ ?_)<;>intro)|((first |refine zab rfl rfl ?_ ?_|refine zaj rfl rfl rfl rfl ?_ ?_);focus (first |omega|exact le_ rfl))|refine zaB rfl ?_|refine zaq rfl ?_|fail)
  all_goals try simp only [Int.toNat_natCast, Int.toNat_zero] at *
  · exact hit (by omega) (by omega) (by assumption)
  · rename_i he
    exact ⟨i + 1, ⟨by omega, fun j hj => by
      by_cases e : j = i
      · subst e; exact he
      · exact h2 j (by omega)⟩, by omega, ⟨rfl, rfl, rfl, trivial⟩, trivial, rfl, by rw [hX]; simp⟩
  all_goals exact miss (fun h => by omega)

theorem zof (s : List UInt8) (j : Int) (b : List UInt8) (hj : 0 ≤ j) (hj2 : j ≤ s.length) : ((quotF s j b).1.length : Int) ≤ b.length + (s.length - j) := by
  fun_induction quotF s j b with
  | case1 j b h h1 ih =>
    have := ih (by omega) (by omega)
    simp only [List.length_append, List.length_cons, List.length_nil] at this
    omega
  | case2 j b h h1 h2 ih =>
    have := ih (by omega) (by omega)
    simp only [List.length_append, List.length_cons, List.length_nil] at this
    omega
  | case3 => dsimp only; omega
  | case4 => simp only [List.length_nil]; omega
  | case5 => simp only [List.length_nil]; omega
theorem zmd (s : List UInt8) (j : Int) (b : List UInt8) (hj : 0 ≤ j) (hj2 : j ≤ s.length) : ((plainF s j b).1.length : Int) ≤ b.length + (s.length - j) := by
  fun_induction plainF s j b with
  | case1 => dsimp only; omega
  | case2 => simp only [List.length_nil]; omega
  | case3 j b h1 h2 ih =>
    have := zeu (s := s) (j := j) (by simpa using h1)
    have := ih (by omega) (by omega)
    simp only [List.length_append, List.length_cons, List.length_nil] at this
    omega
theorem zig (s : List UInt8) (j : Int) (hj : 0 ≤ j) (hj2 : j ≤ s.length) : (fieldF s j).1.length ≤ s.length := by
  unfold fieldF
  split
  · have := zof s (j + 1) [] (by omega) (by omega)
    simp only [List.length_nil] at this
    omega
  · have := zmd s j [] hj hj2
    simp only [List.length_nil] at this
    omega
theorem zqc (s : List UInt8) (i : Int) (l : List (List UInt8)) (hi : 0 ≤ i) (hi2 : i ≤ s.length) (hl : ∀ t ∈ l, t.length ≤ s.length) :
    (∀ t ∈ (rowG s i l).1, t.length ≤ s.length) ∧ ((rowG s i l).1.length : Int) ≤ l.length + (s.length + 1 - i) := by
  fun_induction rowG s i l with
  | case1 i l f h =>
    refine ⟨fun t ht => (List.not_mem_nil ht).elim, ?_⟩
    simp only [List.length_nil]
    omega
  | case2 i l f h1 h2 ih =>
    have h3 := zbe s i hi hi2
    have h4 := zig s i hi hi2
    have h5 : i ≤ f.2.1 := h3.1
    obtain ⟨g1, g2⟩ := ih (by omega) (by omega) (fun t ht => by
      rcases List.mem_append.1 ht with q | q
      · exact hl t q
      · rw [List.mem_singleton.1 q]
        exact h4)
    refine ⟨g1, ?_⟩
    simp only [List.length_append, List.length_cons, List.length_nil] at g2
    omega
  | case3 i l f h1 h2 =>
    have h4 := zig s i hi hi2
    refine ⟨fun t ht => ?_, ?_⟩
    · rcases List.mem_append.1 ht with q | q
      · exact hl t q
      · rw [List.mem_singleton.1 q]
        exact h4
    · simp only [List.length_append, List.length_cons, List.length_nil]
      omega
def goodR (n : Nat) (rows : List (List (List UInt8))) : Prop := ∀ k, k < rows.length → (rows.getD k []).length = (rows.getD 0 []).length ∧ (rows.getD k []).length ≤ n + 1 ∧ ∀ t ∈ rows.getD k [], t.length ≤ n
theorem zlO {n : Nat} {rows : List (List (List UInt8))} {r : List (List UInt8)} (h : goodR n rows) (h0 : 0 < rows.length → (rows.getD 0 []).length = r.length) (h1 : r.length ≤ n + 1) (h2 : ∀ t ∈ r, t.length ≤ n) : goodR n (rows ++ [r]) := by
  intro k hk
  rw [List.length_append] at hk
  simp only [List.length_cons, List.length_nil] at hk
  by_cases h3 : k < rows.length
  · have e : (rows ++ [r]).getD k [] = rows.getD k [] := by simp [List.getD_eq_getElem?_getD, List.getElem?_append_left h3]
    have e0 : (rows ++ [r]).getD 0 [] = rows.getD 0 [] := by rw [List.getD_eq_getElem?_getD, List.getD_eq_getElem?_getD, List.getElem?_append_left (by omega)]
    rw [e, e0]
    exact h k h3
  · have hk2 : k = rows.length := by omega
    subst hk2
    have e : (rows ++ [r]).getD rows.length [] = r := by simp [List.getD_eq_getElem?_getD]
    rw [e]
    refine ⟨?_, h1, h2⟩
    by_cases h4 : 0 < rows.length
    · have e0 : (rows ++ [r]).getD 0 [] = rows.getD 0 [] := by rw [List.getD_eq_getElem?_getD, List.getD_eq_getElem?_getD, List.getElem?_append_left h4]
      rw [e0]
      exact (h0 h4).symm
    · have : rows = [] := List.eq_nil_of_length_eq_zero (by omega)
      subst this
      rfl
theorem zpa (s : List UInt8) (i : Int) (rows : List (List (List UInt8))) (hi : 0 ≤ i) (hi2 : i ≤ s.length) (hg : goodR s.length rows) (hn : (rows.length : Int) ≤ i) :
    goodR s.length (tabG s i rows).1 ∧ (tabG s i rows).1.length ≤ s.length := by
  have h0 : goodR s.length [] := fun k hk => absurd hk (Nat.not_lt_zero _)
  fun_induction tabG s i rows with
  | case1 => exact ⟨h0, Nat.zero_le _⟩
  | case2 => exact ⟨h0, Nat.zero_le _⟩
  | case3 i rows h h1 h2 h3 ih =>
    have r1 := zdv s i [] h.1 (by omega)
    have r2 := zdl s (rowG s i []).2.1
    obtain ⟨r3, r4⟩ := zqc s i [] h.1 (by omega) (fun t ht => (List.not_mem_nil ht).elim)
    simp only [List.length_nil] at r4
    refine ih ?_ ?_ (zlO hg (fun q => Decidable.byContradiction fun e => h3 ⟨q, e⟩) (by omega) r3) ?_
    · omega
    · exact zgS s _ r1.2.1
    · rw [List.length_append]
      simp only [List.length_cons, List.length_nil]
      grind
  | case4 => exact ⟨h0, Nat.zero_le _⟩
  | case5 => exact ⟨hg, by dsimp only; omega⟩
theorem parse_good (s : List UInt8) : goodR s.length (parseG s).1 ∧ (parseG s).1.length ≤ s.length := by
  have h0 : goodR s.length [] := fun k hk => absurd hk (Nat.not_lt_zero _)
  unfold parseG
  split
  · exact ⟨h0, Nat.zero_le _⟩
  · exact zpa s 0 [] (by omega) (by omega) h0 (by simp)
end Go.Proofs.YtkkaamhocpmhkaaGreatDoor.Flow.Csv
