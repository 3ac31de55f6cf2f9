/- The texts V4, V5, V6, V7, LibsI, D0, DO, D6, D1, D2, D3, D10, D14, D12, one behind the other. -/
import Derived.Test.YtkkaamhocpmhkaaGreatDoorSA9
import Derived.Test.YtkkaamhocpmhkaaGreatDoorSA12
import Derived.Test.YtkkaamhocpmhkaaGreatDoorSA13
import Derived.Lib.Bytealg
import Derived.Lib.Small
import Derived.Lib.TrimByte
import Derived.Lib.Repeat
namespace Go.Proofs.YtkkaamhocpmhkaaGreatDoor.Flow
open Go
theorem zgJ (s p : List UInt8) : Ctr Tryz.prog 94 [.s s, .s p] (.tu [.s (Lib.trimPrefix s p), .b (Lib.hasPrefix s p)]) := by
  intro w S vs hv hg hn hr
  have h0 := hr 0 (by simp)
  have h1 := hr 1 (by simp)
  rw [zlW hn]
  generalize vs.getD 0 undef = v0 at *
  generalize vs.getD 1 undef = v1 at *
  cases h0
  cases h1
  refine (Tryz.strings_CutPrefix ⟨s.toArray⟩ ⟨p.toArray⟩ w).mono ?_
  rintro e w' ⟨rfl, rfl⟩
  refine ⟨_, S, rfl, .tu _ _ _ rfl (fun j hj => ?_), zlp hv hg⟩
  match j, hj with
  | 0, _ => exact .s _ _
  | 1, _ => exact .b _ _
theorem zdm (s p : List UInt8) (hs : s.length ≤ 9223372036854775807) : Ctr Tryz.prog 95 [.s s, .s p] (.tu [.s (Lib.trimSuffix s p), .b (Lib.hasSuffix s p)]) := by
  intro w S vs hv hg hn hr
  have h0 := hr 0 (by simp)
  have h1 := hr 1 (by simp)
  rw [zlW hn]
  generalize vs.getD 0 undef = v0 at *
  generalize vs.getD 1 undef = v1 at *
  cases h0
  cases h1
  refine (Tryz.strings_CutSuffix ⟨s.toArray⟩ ⟨p.toArray⟩ w (by simpa [ByteArray.size] using hs)).mono ?_
  rintro e w' ⟨rfl, rfl⟩
  refine ⟨_, S, rfl, .tu _ _ _ rfl (fun j hj => ?_), zlp hv hg⟩
  match j, hj with
  | 0, _ => exact .s _ _
  | 1, _ => exact .b _ _
theorem zeG {p : UInt8 → Bool} {s : List UInt8} {i : Nat} (h : i < s.length) : (s.take (i + 1)).all p = ((s.take i).all p && p (s.getD i 0)) := by
  rw [List.take_add_one, List.all_append]
  congr 1
  have : s[i]? = some (s.getD i 0) := by simp [List.getD_eq_getElem?_getD, h]
  rw [this]
  simp
theorem ziY {p : UInt8 → Bool} {s : List UInt8} {i : Nat} (h : i < s.length) (hc : p (s.getD i 0) = false) : s.all p = false := by
  rw [List.all_eq_false]
  refine ⟨s.getD i 0, ?_, ?_⟩
  · rw [List.getD_eq_getElem?_getD, List.getElem?_eq_getElem h, Option.getD_some]
    exact List.getElem_mem h
  · rw [hc]
    exact Bool.false_ne_true
theorem zjW (s : List UInt8) (i : Nat) : at' s i = ((s.getD i 0).toNat : Int) := by simp [at']
def nmC (c : UInt8) : Bool := (decide (97 ≤ c.toNat) && decide (c.toNat ≤ 122)) || (decide (48 ≤ c.toNat) && decide (c.toNat ≤ 57)) || decide (c.toNat = 95) || decide (c.toNat = 45)
def nmB (s : List UInt8) : Bool := s.all nmC && decide (0 < s.length ∧ s.length ≤ 64)
theorem zmI {c : UInt8} : nmC c = true ↔ (97 ≤ c.toNat ∧ c.toNat ≤ 122) ∨ (48 ≤ c.toNat ∧ c.toNat ≤ 57) ∨ c.toNat = 95 ∨ c.toNat = 45 := by
  simp only [nmC, Bool.or_eq_true, Bool.and_eq_true, decide_eq_true_eq]
  omega
theorem nmC_f {c : UInt8} : nmC c = false ↔ ¬ ((97 ≤ c.toNat ∧ c.toNat ≤ 122) ∨ (48 ≤ c.toNat ∧ c.toNat ≤ 57) ∨ c.toNat = 95 ∨ c.toNat = 45) := by
  rw [← zmI, Bool.not_eq_true]
set_option maxRecDepth 100000 in
theorem zfo (s : List UInt8) (hs : s.length ≤ 4194304) : Ctr Tryz.prog 96 [.s s] (.b (nmB s)) := by
  refine zaE Tryz.func96 rfl Tryz.ntmps96 Tryz.results96 rfl rfl fun X hL hX => ?_
  repeat' (first |with_reducible (first |refine zag ?_|refine zaa ?_|refine zaf ?_|refine zac ?_|refine zae ?_)|refine zab rfl rfl True.intro ?_|fail)
  refine T.loop hL (fun i : Nat => [(0, .s s), (6, .i .i64 s.length), (7, .i .i64 i)]) (fun _ => []) (fun i => i ≤ s.length ∧ (s.take i).all nmC = true) (fun i => s.length - i) 0 ⟨Nat.zero_le _, by simp⟩
    ⟨⟨rfl, rfl, rfl, trivial⟩, trivial, rfl, fun q hq => by rw [hX] at hq; simp at hq⟩ ?_
  rintro i ⟨hi, hall⟩
  by_cases hil : i < s.length
  · have hst := zeG (p := nmC) hil
    have ha := zjW s i
    cases hc : nmC (s.getD i 0) with
    | true =>
      have hcc := zmI.1 hc
      have hna : (97 ≤ at' s i ∧ at' s i ≤ 122) ∨ (48 ≤ at' s i ∧ at' s i ≤ 57) ∨ at' s i = 95 ∨ at' s i = 45 := by omega
      clear hcc ha
      repeat' (first |with_reducible (first |refine zag ?_|refine zaa ?_|refine zaf ?_|refine zac ?_|refine zah ?_|refine zae ?_|refine zai ?_)|refine zab rfl rfl True.intro ?_|refine zay rfl rfl rfl ?_|refine zcr rfl rfl rfl ?_|refine zam rfl rfl rfl rfl True.intro ?_|refine zak rfl ?_|((first |refine zad rfl ?_ ?_|refine zdg rfl ?_ ?_|refine zal rfl rfl ?_ ?_)<;>intro<;>try (first |(exfalso;omega)))|((first |refine zab rfl rfl ?_ ?_);focus (first |omega))|fail)
      all_goals exact ⟨i + 1, ⟨by omega, by rw [hst, hall, hc]; rfl⟩, by omega, ⟨rfl, rfl, congrArg (D.i .i64) (by omega), trivial⟩, trivial, rfl, fun q hq => by rw [hX] at hq; simp at hq⟩
    | false =>
      have hcc := nmC_f.1 hc
      have hna : ¬ ((97 ≤ at' s i ∧ at' s i ≤ 122) ∨ (48 ≤ at' s i ∧ at' s i ≤ 57) ∨ at' s i = 95 ∨ at' s i = 45) := by omega
      have hb : nmB s = false := by
        unfold nmB
        rw [ziY hil hc]
        rfl
      rw [hb]
      clear hcc ha
      repeat' (first |with_reducible (first |refine zag ?_|refine zaa ?_|refine zaf ?_|refine zac ?_|refine zar ?_|refine zah ?_|refine zae ?_|refine zaB ?_|refine zaO ?_)|refine zab rfl rfl True.intro ?_|refine zay rfl rfl rfl ?_|refine zam rfl rfl rfl rfl True.intro ?_|((first |refine zad rfl ?_ ?_|refine zdg rfl ?_ ?_|refine zal rfl rfl ?_ ?_)<;>intro<;>try (first |(exfalso;omega)))|((first |refine zab rfl rfl ?_ ?_);focus (first |omega))|refine zau rfl ?_|fail)
      all_goals rfl
  · have : i = s.length := by omega
    subst this
    rw [List.take_length] at hall
    have hb : nmB s = decide (0 < s.length ∧ s.length ≤ 64) := by
      unfold nmB
      rw [hall]
      rfl
    rw [hb]
    repeat' (first |with_reducible (first |refine zag ?_|refine zaa ?_|refine zaf ?_|refine zac ?_|refine zar ?_|refine zan ?_|refine zao ?_)|refine zab rfl rfl True.intro ?_|refine zay rfl rfl rfl ?_|refine zam rfl rfl rfl rfl True.intro ?_|((first |refine zad rfl ?_ ?_|refine zal rfl rfl ?_ ?_)<;>intro<;>try (first |(exfalso;omega)))|refine zat rfl ?_|refine zau rfl ?_|fail)
    all_goals
      refine congrArg D.b ?_
      rw [Bool.eq_iff_iff]
      simp only [decide_eq_true_eq, Bool.false_eq_true, false_iff]
      omega
def dgC (c : UInt8) : Bool := decide (48 ≤ c.toNat) && decide (c.toNat ≤ 57)
def nuV (s : List UInt8) : Int := s.foldl (fun n c => 10 * n + c.toNat - 48) 0
def nuB (s : List UInt8) : Bool := decide (0 < s.length ∧ s.length ≤ 10 ∧ (1 < s.length → ¬ s.getD 0 0 = 48)) && s.all dgC
def nuR (s : List UInt8) : List D := if nuB s = true then [.i .i64 (nuV s), .b true] else [.i .i64 0, .b false]
theorem zmy {c : UInt8} : dgC c = true ↔ 48 ≤ c.toNat ∧ c.toNat ≤ 57 := by
  simp only [dgC, Bool.and_eq_true, decide_eq_true_eq]
theorem dgC_f {c : UInt8} : dgC c = false ↔ ¬ (48 ≤ c.toNat ∧ c.toNat ≤ 57) := by
  rw [← zmy, Bool.not_eq_true]
theorem zgQ {s : List UInt8} {i : Nat} (h : i < s.length) : nuV (s.take (i + 1)) = 10 * nuV (s.take i) + (s.getD i 0).toNat - 48 := by
  unfold nuV
  have e : s.take (i + 1) = s.take i ++ [s.getD i 0] := by
    rw [List.take_add_one, List.getElem?_eq_getElem h]
    simp [List.getD_eq_getElem?_getD, h]
  rw [e, List.foldl_append]
  rfl
theorem ziG {s : List UInt8} : ∀ i, i ≤ s.length → (s.take i).all dgC = true → 0 ≤ nuV (s.take i) ∧ nuV (s.take i) < 10 ^ i := by
  intro i
  induction i with
  | zero => intro _ _; exact ⟨Int.le_refl _, (by decide : (0 : Int) < 10 ^ 0)⟩
  | succ i ih =>
    intro hi ha
    rw [zeG hi, Bool.and_eq_true] at ha
    have h1 := ih (by omega) ha.1
    have h2 := zmy.1 ha.2
    rw [zgQ hi, Int.pow_succ]
    omega
theorem zlu {s : List UInt8} (h : nuB s = false) : nuR s = [.i .i64 0, .b false] := by
  unfold nuR
  rw [h]
  rfl
theorem zlJ {s : List UInt8} (h : ¬ (0 < s.length ∧ s.length ≤ 10 ∧ (1 < s.length → ¬ s.getD 0 0 = 48))) : nuB s = false := by
  unfold nuB
  rw [decide_eq_false h]
  rfl
theorem byte48 (c : UInt8) : c = 48 ↔ (c.toNat : Int) = 48 := by
  constructor
  · rintro rfl
    rfl
  · intro h
    exact UInt8.toNat.inj (by show c.toNat = 48; omega)
set_option maxRecDepth 100000 in
set_option maxHeartbeats 1000000 in
theorem zdP (s : List UInt8) (hs : s.length ≤ 4194304) : Ctr Tryz.prog 98 [.s s] (.tu (nuR s)) := by
  have h0 : at' s 0 = ((s.getD 0 0).toNat : Int) := zjW s 0
  have hnil : (s == []) = decide (s.length = 0) := by cases s <;> rfl
  refine zaE Tryz.func98 rfl Tryz.ntmps98 Tryz.results98 rfl (by unfold nuR; split <;> rfl) fun X hL hX => ?_
  by_cases hf : 0 < s.length ∧ s.length ≤ 10 ∧ (1 < s.length → ¬ s.getD 0 0 = 48)
  · obtain ⟨h1, h2, h3⟩ := hf
    have hx : 1 < s.length → ¬ at' s 0 = 48 := fun h => by rw [h0]; exact fun e => h3 h ((byte48 _).2 e)
    repeat' (first |with_reducible (first |refine zag ?_|refine zaa ?_|refine zaf ?_|refine zac ?_|refine zar ?_|refine zah ?_|refine zae ?_|refine zaB ?_)|refine zab rfl rfl True.intro ?_|refine zay rfl rfl rfl ?_|refine zcr rfl rfl rfl ?_|refine zam rfl rfl rfl rfl True.intro ?_|refine zas rfl ?_|refine zak rfl ?_|((first |refine zad rfl ?_ ?_|refine zal rfl rfl ?_ ?_|refine zcA rfl rfl ?_ ?_)<;>intro<;>try (first |(exfalso;omega)))|((first |refine zam rfl rfl rfl rfl ?_ ?_);focus (first |omega))|refine zau rfl ?_|fail)
    all_goals first | (exfalso; rename_i hz; rw [show s = [] from hz] at h1; exact absurd h1 (by decide)) | skip
    all_goals
      refine T.loop hL (fun i : Nat => [(0, .s s), (4, .i .i64 (nuV (s.take i))), (24, .i .i64 s.length), (25, .i .i64 i)]) (fun _ => []) (fun i => i ≤ s.length ∧ (s.take i).all dgC = true) (fun i => s.length - i) 0 ⟨Nat.zero_le _, by simp⟩
        ⟨⟨rfl, rfl, rfl, rfl, trivial⟩, trivial, rfl, fun q hq => by rw [hX] at hq; simp at hq⟩ ?_
      rintro i ⟨hi, hall⟩
      by_cases hil : i < s.length
      · have hst := zeG (p := dgC) hil
        have ha := zjW s i
        have hnv := zgQ hil
        have hnb := ziG i hi hall
        have hp : (10 : Int) ^ i ≤ 1000000000 := by
          have h7 : (10 : Nat) ^ i ≤ 1000000000 := Nat.le_trans (Nat.pow_le_pow_right (by decide) (show i ≤ 9 by omega)) (by decide)
          have h8 : ((10 ^ i : Nat) : Int) = (10 : Int) ^ i := Int.natCast_pow 10 i
          rw [← h8]
          exact Int.ofNat_le.2 h7
        cases hc : dgC (s.getD i 0) with
        | true =>
          have hcc := zmy.1 hc
          have hna : 48 ≤ at' s i ∧ at' s i ≤ 57 := by omega
          rw [← ha] at hnv
          clear hcc ha h0
          repeat' (first |with_reducible (first |refine zag ?_|refine zaa ?_|refine zaf ?_|refine zac ?_|refine zah ?_|refine zae ?_|refine zai ?_)|refine zab rfl rfl True.intro ?_|refine zam rfl rfl rfl rfl True.intro ?_|((first |refine zad rfl ?_ ?_|refine zal rfl rfl ?_ ?_)<;>intro<;>try (first |(exfalso;omega)))|((first |refine zab rfl rfl ?_ ?_|refine zam rfl rfl rfl rfl ?_ ?_);focus (first |omega|((repeat first |rw [wrap_u8]|rw [wi6_]);(repeat' refine And.intro ?_ ?_)<;>omega)))|fail)
          all_goals exact ⟨i + 1, ⟨by omega, by rw [hst, hall, hc]; rfl⟩, by omega, ⟨rfl, congrArg (D.i .i64) (by rw [hnv]; try simp only [wrap_u8, wi6_]; omega), rfl, congrArg (D.i .i64) (by omega), trivial⟩, trivial, rfl, fun q hq => by rw [hX] at hq; simp at hq⟩
        | false =>
          have hcc := dgC_f.1 hc
          have hna : ¬ (48 ≤ at' s i ∧ at' s i ≤ 57) := by omega
          rw [zlu (by unfold nuB; rw [ziY hil hc, Bool.and_false])]
          clear hcc ha h0 hnv
          repeat' (first |with_reducible (first |refine zag ?_|refine zaa ?_|refine zaf ?_|refine zac ?_|refine zar ?_|refine zah ?_|refine zae ?_|refine zaB ?_|refine zaO ?_)|refine zab rfl rfl True.intro ?_|refine zay rfl rfl rfl ?_|refine zam rfl rfl rfl rfl True.intro ?_|refine zas rfl ?_|((first |refine zad rfl ?_ ?_|refine zal rfl rfl ?_ ?_)<;>intro<;>try (first |(exfalso;omega)))|((first |refine zab rfl rfl ?_ ?_|refine zam rfl rfl rfl rfl ?_ ?_);focus (first |omega|((repeat' refine And.intro ?_ ?_)<;>omega)))|refine zau rfl ?_|fail)
          all_goals rfl
      · have : i = s.length := by omega
        subst this
        rw [List.take_length] at hall
        have hb : nuR s = [.i .i64 (nuV s), .b true] := if_pos (by unfold nuB; rw [hall, decide_eq_true ⟨h1, h2, h3⟩]; rfl)
        rw [hb]
        repeat' (first |with_reducible (first |refine zag ?_|refine zaa ?_|refine zaf ?_|refine zac ?_|refine zar ?_|refine zan ?_|refine zao ?_)|refine zab rfl rfl True.intro ?_|((first |refine zad rfl ?_ ?_)<;>intro<;>try (first |(exfalso;omega)))|refine zat rfl ?_|refine zau rfl ?_|fail)
        all_goals rw [List.take_length]
  · rw [zlu (zlJ hf)]
    have hx : s.length = 0 ∨ 10 < s.length ∨ (1 < s.length ∧ at' s 0 = 48) := by
      by_cases a1 : s.length = 0
      · exact .inl a1
      by_cases a2 : 10 < s.length
      · exact .inr (.inl a2)
      have a3 := Classical.not_imp.1 fun q => hf ⟨by omega, by omega, q⟩
      exact .inr (.inr ⟨a3.1, by rw [h0]; exact (byte48 _).1 (Classical.not_not.1 a3.2)⟩)
    clear hf h0
    repeat' (first |with_reducible (first |refine zag ?_|refine zaa ?_|refine zaf ?_|refine zac ?_|refine zar ?_|refine zah ?_|refine zae ?_|refine zaB ?_)|refine zab rfl rfl True.intro ?_|refine zay rfl rfl rfl ?_|refine zcr rfl rfl rfl ?_|refine zam rfl rfl rfl rfl True.intro ?_|refine zas rfl ?_|refine zak rfl ?_|((first |refine zad rfl ?_ ?_|refine zal rfl rfl ?_ ?_|refine zcA rfl rfl ?_ ?_)<;>intro<;>try (first |(exfalso;omega)))|((first |refine zam rfl rfl rfl rfl ?_ ?_);focus (first |omega))|refine zau rfl ?_|fail)
    all_goals first | rfl | skip
    all_goals (exfalso; rename_i k1 k2 k3; have : ¬ s.length = 0 := fun e => k1 (List.length_eq_zero_iff.1 e); omega)

def cutV (s p : List UInt8) : List UInt8 := if Lib.hasSuffix s p = true then s.take (s.length - p.length) else []
def splA (l : List (List UInt8)) (c : UInt8) : List (List UInt8) := if c = 47 then l ++ [[]] else l.set (l.length - 1) (l.getD (l.length - 1) [] ++ [c])
def splG (s : List UInt8) : List (List UInt8) := s.foldl splA [[]]
theorem zfL {s : List UInt8} {i : Nat} (h : i < s.length) : splG (s.take (i + 1)) = splA (splG (s.take i)) (s.getD i 0) := by
  unfold splG
  have e : s.take (i + 1) = s.take i ++ [s.getD i 0] := by
    rw [List.take_add_one, List.getElem?_eq_getElem h]
    simp [List.getD_eq_getElem?_getD, h]
  rw [e, List.foldl_append]
  rfl
theorem zkB (l : List (List UInt8)) (c : UInt8) : (splA l c).length = l.length + (if c = 47 then 1 else 0) := by
  unfold splA
  split <;> simp
theorem zkn (s : List UInt8) : ∀ i, i ≤ s.length → 1 ≤ (splG (s.take i)).length ∧ (splG (s.take i)).length ≤ i + 1 := by
  intro i
  induction i with
  | zero => intro _; exact ⟨Nat.le_refl _, Nat.le_refl _⟩
  | succ i ih =>
    intro hi
    have := ih (by omega)
    rw [zfL hi, zkB]
    split <;> omega
theorem zik (s : List UInt8) : ∀ i, i ≤ s.length → ∀ j, ((splG (s.take i)).getD j []).length ≤ i := by
  intro i
  induction i with
  | zero =>
    intro _ j
    show (([[]] : List (List UInt8)).getD j []).length ≤ 0
    cases j with
    | zero => exact Nat.le_refl _
    | succ j => simp
  | succ i ih =>
    intro hi j
    have h := ih (by omega)
    rw [zfL hi]
    generalize splG (s.take i) = l at *
    unfold splA
    split
    · simp only [List.getD_eq_getElem?_getD] at h ⊢
      by_cases hj : j < l.length
      · rw [List.getElem?_append_left hj]
        exact Nat.le_succ_of_le (h j)
      · rw [List.getElem?_append_right (by omega)]
        cases e : j - l.length with
        | zero => simp
        | succ k => simp
    · have hm := h (l.length - 1)
      simp only [List.getD_eq_getElem?_getD] at h hm ⊢
      rw [List.getElem?_set]
      split
      · split
        · simp only [Option.getD_some, List.length_append, List.length_cons, List.length_nil]
          omega
        · simp
      · exact Nat.le_succ_of_le (h j)

def consH (c : UInt8) : List (List UInt8) → List (List UInt8)
  | [] => [[c]]
  | a :: t => (c :: a) :: t
def consA (a : List UInt8) : List (List UInt8) → List (List UInt8)
  | [] => [a]
  | h :: t => (a ++ h) :: t
def spl : List UInt8 → List (List UInt8)
  | [] => [[]]
  | c :: s => if c = 47 then [] :: spl s else consH c (spl s)
theorem zhg (s : List UInt8) : ∃ a t, spl s = a :: t := by
  cases s with
  | nil => exact ⟨_, _, rfl⟩
  | cons c s =>
    unfold spl
    split
    · exact ⟨_, _, rfl⟩
    · cases spl s with
      | nil => exact ⟨_, _, rfl⟩
      | cons a t => exact ⟨_, _, rfl⟩
theorem zjy {b : UInt8} (h : ¬ b = 47) (l : List UInt8) (k : Nat) : Lib.splitK [47] 0 k (b :: l) = consH b (Lib.splitK [47] 0 k l) := by
  cases k with
  | zero => rfl
  | succ k =>
    have hp : ([47] : List UInt8).isPrefixOf (b :: l) = false := by
      simp only [List.isPrefixOf, Bool.and_true]
      exact beq_eq_false_iff_ne.2 fun e => h e.symm
    have hix : Lib.index (b :: l) [47] = if Lib.index l [47] == -1 then -1 else Lib.index l [47] + 1 := by
      rw [Lib.index, hp]
      simp
    have hge := Lib.index_ge l [47]
    unfold Lib.splitK
    by_cases hm : Lib.index l [47] = -1
    · rw [hix, if_pos (beq_iff_eq.2 hm), if_pos (by decide), if_pos (beq_iff_eq.2 hm)]
      rfl
    · have hm' : ¬ (Lib.index l [47] == -1) = true := fun e => hm (beq_iff_eq.1 e)
      rw [hix, if_neg hm', if_neg (fun e => by have := beq_iff_eq.1 e; omega), if_neg hm']
      have e : (Lib.index l [47] + 1).toNat = (Lib.index l [47]).toNat + 1 := by omega
      rw [e]
      rfl
theorem zeW : ∀ s : List UInt8, Lib.split s [47] = spl s
  | [] => by
    unfold Lib.split
    rw [Lib.count_one]
    rfl
  | c :: s => by
    have ih := zeW s
    unfold Lib.split at ih ⊢
    unfold spl
    by_cases h : c = 47
    · subst h
      rw [Lib.count_cons_eq, Nat.add_comm 1, if_pos rfl, ← ih]
      have hix : Lib.index ((47 : UInt8) :: s) [47] = 0 := by
        rw [Lib.index]
        simp [List.isPrefixOf]
      rw [Lib.splitK, hix]
      rfl
    · rw [Lib.count_cons_ne _ _ _ h, zjy h, ih, if_neg h]
theorem zeM : ∀ (s : List UInt8) (ls : List (List UInt8)) (a : List UInt8), s.foldl splA (ls ++ [a]) = ls ++ consA a (spl s)
  | [], ls, a => by
    show ls ++ [a] = ls ++ [a ++ []]
    rw [List.append_nil]
  | c :: s, ls, a => by
    rw [List.foldl_cons]
    obtain ⟨x, t, hx⟩ := zhg s
    unfold spl
    by_cases h : c = 47
    · rw [if_pos h]
      have e : splA (ls ++ [a]) c = (ls ++ [a]) ++ [[]] := if_pos h
      rw [e, zeM s (ls ++ [a]) [], hx]
      show _ = ls ++ ((a ++ []) :: x :: t)
      simp [consA]
    · rw [if_neg h]
      have e : splA (ls ++ [a]) c = ls ++ [a ++ [c]] := by
        unfold splA
        rw [if_neg h]
        simp
      rw [e, zeM s ls (a ++ [c]), hx]
      simp [consA, consH]
theorem zgN (s : List UInt8) : splG s = spl s := by
  have h := zeM s [] []
  obtain ⟨x, t, hx⟩ := zhg s
  rw [hx] at h ⊢
  exact h
theorem zhu (s : List UInt8) : splitL s [47] = spl s := by
  rw [← zeW]
  unfold splitL Lib.split
  rw [Lib.splitB_data]
def jsonE : List UInt8 := [46, 106, 115, 111, 110]
def mvtE : List UInt8 := [46, 109, 118, 116]
def plZ (z x y : Int) : D := .ag [.i .i64 z, .i .i64 x, .i .i64 y]
def noR : List D := [.s [], plZ 0 0 0, .b false, .b false]
def docR (id : List UInt8) : List D := [.s id, plZ 0 0 0, .b false, .b true]
def tileR (id : List UInt8) (z x y : Int) : List D := [.s id, plZ z x y, .b true, .b true]
def jsP (t : List UInt8) : Prop := Lib.hasSuffix t jsonE = true ∧ nmB (Lib.trimSuffix t jsonE) = true
def tiP (t : List UInt8) (l : List (List UInt8)) : Prop := Lib.hasSuffix t mvtE = true ∧ l.length = 4 ∧ nmB (l.getD 0 []) = true ∧ nuB (l.getD 1 []) = true ∧ nuB (l.getD 2 []) = true ∧ nuB (l.getD 3 []) = true
def jsD (l : List (List UInt8)) : Prop := l.length = 2 ∧ l.getD 0 [] = [] ∧ Lib.hasSuffix (l.getD 1 []) jsonE = true ∧ nmB (cutV (l.getD 1 []) jsonE) = true
def tiD (l : List (List UInt8)) : Prop := l.length = 5 ∧ l.getD 0 [] = [] ∧ nmB (l.getD 1 []) = true ∧ Lib.hasSuffix (l.getD 4 []) mvtE = true ∧ nuB (l.getD 2 []) = true ∧ nuB (l.getD 3 []) = true ∧ nuB (cutV (l.getD 4 []) mvtE) = true
instance (t : List UInt8) : Decidable (jsP t) := by unfold jsP; infer_instance
instance (t : List UInt8) (l : List (List UInt8)) : Decidable (tiP t l) := by unfold tiP; infer_instance
instance (l : List (List UInt8)) : Decidable (jsD l) := by unfold jsD; infer_instance
instance (l : List (List UInt8)) : Decidable (tiD l) := by unfold tiD; infer_instance
def routeT (t : List UInt8) : List D :=
  if jsP t then docR (Lib.trimSuffix t jsonE)
  else if tiP t (spl (Lib.trimSuffix t mvtE)) then
    tileR ((spl (Lib.trimSuffix t mvtE)).getD 0 []) (nuV ((spl (Lib.trimSuffix t mvtE)).getD 1 [])) (nuV ((spl (Lib.trimSuffix t mvtE)).getD 2 [])) (nuV ((spl (Lib.trimSuffix t mvtE)).getD 3 []))
  else noR
def routeP (path : List UInt8) : List D := if Lib.hasPrefix path [47] = true then routeT (Lib.trimPrefix path [47]) else noR

def nuI (s : List UInt8) : Int := if nuB s = true then nuV s else 0
theorem zmB (s : List UInt8) : nuR s = [.i .i64 (nuI s), .b (nuB s)] := by
  unfold nuR nuI
  cases nuB s <;> rfl
theorem zjk (s : List UInt8) (j : Nat) : ((spl s).getD j []).length ≤ s.length := by
  have := zik s s.length (Nat.le_refl _) j
  rwa [List.take_length, zgN] at this
theorem zmk (s : List UInt8) : (spl s).length ≤ s.length + 1 := by
  have := (zkn s s.length (Nat.le_refl _)).2
  rwa [List.take_length, zgN] at this
theorem zjj (s p : List UInt8) : (Lib.trimPrefix s p).length ≤ s.length := by
  unfold Lib.trimPrefix
  split
  · rw [List.length_drop]; omega
  · exact Nat.le_refl _
theorem zfO (s p : List UInt8) : (Lib.trimSuffix s p).length ≤ s.length := by
  unfold Lib.trimSuffix
  split
  · rw [List.length_take]; omega
  · exact Nat.le_refl _
set_option maxRecDepth 100000 in
set_option maxHeartbeats 2000000 in
theorem ziu (path : List UInt8) (hs : path.length ≤ 4194304) : Ctr Tryz.prog 50 [.s path] (.tu (routeP path)) := by
  have c1 := zgJ path [47]
  have h1 := zjj path [47]
  have hR : routeP path = if Lib.hasPrefix path [47] = true then routeT (Lib.trimPrefix path [47]) else noR := rfl
  generalize routeP path = R at hR
  generalize Lib.trimPrefix path [47] = t at *
  generalize Lib.hasPrefix path [47] = b1 at *
  have c2 := zdm t [46, 106, 115, 111, 110] (by omega)
  have c4 := zdm t [46, 109, 118, 116] (by omega)
  have h2 := zfO t jsonE
  have h4 := zfO t mvtE
  have hT : routeT t = if Lib.hasSuffix t jsonE = true ∧ nmB (Lib.trimSuffix t jsonE) = true then docR (Lib.trimSuffix t jsonE) else if Lib.hasSuffix t mvtE = true ∧ (spl (Lib.trimSuffix t mvtE)).length = 4 ∧ nmB ((spl (Lib.trimSuffix t mvtE)).getD 0 []) = true ∧ nuB ((spl (Lib.trimSuffix t mvtE)).getD 1 []) = true ∧ nuB ((spl (Lib.trimSuffix t mvtE)).getD 2 []) = true ∧ nuB ((spl (Lib.trimSuffix t mvtE)).getD 3 []) = true then
    tileR ((spl (Lib.trimSuffix t mvtE)).getD 0 []) (nuV ((spl (Lib.trimSuffix t mvtE)).getD 1 [])) (nuV ((spl (Lib.trimSuffix t mvtE)).getD 2 [])) (nuV ((spl (Lib.trimSuffix t mvtE)).getD 3 [])) else noR := by
    unfold routeT
    by_cases q : jsP t
    · rw [if_pos q]
      exact (if_pos q).symm
    · rw [if_neg q]
      refine Eq.trans ?_ (if_neg q).symm
      by_cases q : tiP t (spl (Lib.trimSuffix t mvtE))
      · rw [if_pos q]
        exact (if_pos q).symm
      · rw [if_neg q]
        exact (if_neg q).symm
  unfold jsonE at h2 hT
  unfold mvtE at h4 hT
  have c3 := zfo (Lib.trimSuffix t [46, 106, 115, 111, 110]) (by omega)
  generalize Lib.trimSuffix t [46, 106, 115, 111, 110] = u at *
  generalize Lib.hasSuffix t [46, 106, 115, 111, 110] = b2 at *
  generalize Lib.hasSuffix t [46, 109, 118, 116] = b4 at *
  have c5 := zlR (Lib.trimSuffix t [46, 109, 118, 116]) [47] (by omega) (by decide)
  have hp := fun j => Nat.le_trans (zjk (Lib.trimSuffix t [46, 109, 118, 116]) j) h4
  have hl := zmk (Lib.trimSuffix t [46, 109, 118, 116])
  rw [zhu] at c5
  generalize Lib.trimSuffix t [46, 109, 118, 116] = v at *
  generalize spl v = l at *
  have c6 := zfo (l.getD 0 []) (by have := hp 0; omega)
  have c7 := zdP (l.getD 1 []) (by have := hp 1; omega)
  have c8 := zdP (l.getD 2 []) (by have := hp 2; omega)
  have c9 := zdP (l.getD 3 []) (by have := hp 3; omega)
  rw [zmB] at c7 c8 c9
  refine zaE Tryz.func50 rfl Tryz.ntmps50 Tryz.results50 rfl (by subst hR; rw [hT]; (repeat' split) <;> rfl) fun X hL hX => ?_
  rw [hT] at hR
  clear hT hp
  repeat' (first |with_reducible (first |refine zag ?_|refine zaa ?_|refine zaf ?_|refine zac ?_|refine zar ?_|refine zah ?_|refine zaB ?_)|refine zab rfl rfl True.intro ?_|refine zay rfl rfl rfl ?_|refine zam rfl rfl rfl rfl True.intro ?_|refine zas rfl ?_|refine zak rfl ?_|((first |refine zbT rfl ?_ ?_|refine zmN rfl ?_ ?_|refine zdN rfl rfl ?_ ?_|refine zfz rfl rfl ?_ ?_)<;>intro)|((first |refine zab rfl rfl ?_ ?_|refine zam rfl rfl rfl rfl ?_ ?_|refine zaw rfl rfl ?_ ?_|refine zax rfl ?_ ?_);focus (first |omega|exact le_ rfl|((repeat' refine And.intro ?_ ?_)<;>first |rfl|exact Nat.le_refl _)))|refine zaj (f := 94) rfl rfl Tryz.call94 rfl c1 ?_|refine zaj (f := 95) rfl rfl Tryz.call95 rfl c2 ?_|refine zaj (f := 95) rfl rfl Tryz.call95 rfl c4 ?_|refine zbr (f := 96) rfl rfl rfl rfl Tryz.call96 rfl c3 ?_|refine zbr (f := 96) rfl rfl rfl rfl Tryz.call96 rfl c6 ?_|refine zaj (f := 97) rfl rfl Tryz.call97 rfl c5 ?_|refine zaj (f := 98) rfl rfl Tryz.call98 rfl c7 ?_|refine zaj (f := 98) rfl rfl Tryz.call98 rfl c8 ?_|refine zaj (f := 98) rfl rfl Tryz.call98 rfl c9 ?_|refine zau rfl ?_|((with_reducible refine c_grd ?_);(fail_if_success (refine zmM true rfl rfl rfl ?_));(fail_if_success (refine zmM false rfl rfl rfl ?_));refine zlZ rfl rfl (fun _ => ?_) (fun _ => ?_))|fail)
  all_goals
    clear c1 c2 c3 c4 c5 c6 c7 c8 c9 hL hX
    refine congrArg D.tu (Eq.trans ?_ hR.symm)
    first | (simp_all [tileR, docR, noR, plZ, D.shut, nuI]; done) | (simp_all [tileR, noR, plZ, D.shut, nuI]; omega) | trace_state

theorem zkR {S : Cells} {w : World} (hg : GOk S w) : Lib.TabIs Tryz.prog w "internal/strconv.uint64pow10" .u64 Lib.pow10Tab := by
  have hn : Tryz.prog.globalNamed "internal/strconv.uint64pow10" = some 2 := by kernel_rfl
  have h1 := hg.rel 2
  have h2 := (hg.len 2 20 rfl).2
  have h3 : ∀ j, j < 20 → w.cell? ⟨2, j, none⟩ = some (.int .u64 (powZ j)) := by
    cases h1 with
    | rn _ _ _ _ _ _ h => exact fun j hj => (h j hj).2
  have h0 := h3 0 (by decide)
  unfold Lib.TabIs
  simp only [World.var?, hn, Option.bind_some]
  cases hh : w.heap[2]? with
  | none => simp [World.cell?, hh] at h0
  | some o =>
    cases o with
    | cells cs t fr =>
      simp only [Option.some.injEq]
      have h4 : ∀ j, j < 20 → cs[j]? = some (.int .u64 (powZ j)) := fun j hj => by
        have := h3 j hj
        simpa [World.cell?, hh] using this
      have h5 : cs[20]? = none := by simpa [World.cell?, hh] using h2
      apply Array.ext_getElem?
      intro j
      by_cases hj : j < 20
      · rw [h4 j hj]
        simp [Lib.pow10Tab, hj, powZ]
      · have : cs.size ≤ 20 := by simpa using h5
        rw [Array.getElem?_eq_none (by omega), Array.getElem?_eq_none (by simp [Lib.pow10Tab]; omega)]
    | _ => simp [World.cell?, hh] at h0
theorem zbz (n : Int) (h0 : -9223372036854775808 ≤ n) (h1 : n ≤ 9223372036854775807) : Ctr Tryz.prog 56 [.i .i64 n] (.s (Lib.itoa n)) := by
  intro w S vs hv hg hn hr
  have h := hr 0 (by simp)
  rw [zmJ hn]
  generalize vs.getD 0 undef = v0 at *
  cases h
  refine (Tryz.strconv_Itoa n h0 h1 w (zkR hg)).mono ?_
  rintro e w' ⟨rfl, k, os, rfl⟩
  exact ⟨_, S, rfl, .s _ _, zeq hv hg (zgE w k os)⟩

abbrev dcD (neg : Bool) (s : List UInt8) (e : Int) : D := .ag [.b neg, .s s, .i .i64 e]
def digs (s : List UInt8) : Prop := ∀ i : Nat, i < s.length → 48 ≤ at' s i ∧ at' s i ≤ 57
def RightP (neg : Bool) (s : List UInt8) (e : Int) : Prop :=
  if s.length = 0 then neg = false ∧ e = 0
  else digs s ∧ s.length ≤ 100 ∧ ¬ at' s 0 = 48 ∧ ¬ at' s (s.length - 1) = 48 ∧ -1000 ≤ e ∧ e ≤ 1000
instance (s : List UInt8) : Decidable (digs s) := by
  unfold digs
  infer_instance
instance (neg : Bool) (s : List UInt8) (e : Int) : Decidable (RightP neg s e) := by
  unfold RightP
  infer_instance
def rightB (neg : Bool) (s : List UInt8) (e : Int) : Bool := decide (RightP neg s e)
theorem zbU {neg : Bool} {s : List UInt8} {e : Int} : rightB neg s e = true ↔ RightP neg s e := by unfold rightB; exact decide_eq_true_iff
theorem zea {neg : Bool} {s : List UInt8} {e : Int} (h : ¬ RightP neg s e) : rightB neg s e = false := by
  rw [← Bool.not_eq_true, zbU]
  exact h
theorem zaJ {neg : Bool} {s : List UInt8} {e : Int} {b : Bool} (h : b = true ↔ RightP neg s e) : D.b b = .b (rightB neg s e) := by
  congr 1
  rw [Bool.eq_iff_iff, h, zbU]
theorem zcw {neg : Bool} {s : List UInt8} {e : Int} (h : s.length = 0) : RightP neg s e ↔ neg = false ∧ e = 0 := by unfold RightP; rw [if_pos h]
theorem zaI {neg : Bool} {s : List UInt8} {e : Int} (h : ¬ s.length = 0) : RightP neg s e ↔ digs s ∧ s.length ≤ 100 ∧ ¬ at' s 0 = 48 ∧ ¬ at' s (s.length - 1) = 48 ∧ -1000 ≤ e ∧ e ≤ 1000 := by unfold RightP; rw [if_neg h]
theorem zjD {s : List UInt8} (h : s.length = 0) : s = [] := List.length_eq_zero_iff.1 h
set_option maxHeartbeats 1000000 in
theorem zfE (neg : Bool) (s : List UInt8) (e : Int) (hs : s.length ≤ 1099511627776) : Ctr Tryz.prog 127 [dcD neg s e] (.b (rightB neg s e)) := by
  refine zaE Tryz.func127 rfl Tryz.ntmps127 Tryz.results127 rfl rfl fun X hL hX => ?_
  repeat' (first |with_reducible (first |refine zag ?_|refine zaa ?_|refine zaf ?_|refine zac ?_|refine zar ?_|refine zah ?_|refine zae ?_|refine zaB ?_)|refine zab rfl rfl True.intro ?_|((first |refine zad rfl ?_ ?_)<;>intro)|((first |refine zab rfl rfl ?_ ?_|refine zaw rfl rfl ?_ ?_);focus (first |exact le_ rfl|((repeat' refine And.intro ?_ ?_)<;>omega)|((repeat' refine And.intro ?_ ?_)<;>first |rfl)))|refine zau rfl ?_|fail)
  · rename_i h0
    refine zaJ ?_
    rw [zcw (by omega), zjD (show s.length = 0 by omega)]
    simp
  rename_i h0
  have h0 : ¬ s.length = 0 := by omega
  refine T.loop hL (fun i : Nat => [(1, .pv 1 0), (3, .i .i64 s.length), (13, .i .i64 s.length), (14, .i .i64 i)]) (fun _ => [(1, .var [.b neg, .s s, .i .i64 e])]) (fun i => i ≤ s.length ∧ ∀ j : Nat, j < i → 48 ≤ at' s j ∧ at' s j ≤ 57) (fun i => s.length - i) 0
    ⟨Nat.zero_le _, fun j hj => absurd hj (Nat.not_lt_zero _)⟩ ⟨⟨rfl, rfl, rfl, rfl, trivial⟩, ⟨rfl, trivial⟩, rfl, by rw [hX]; intro k hk; cases hk⟩ ?_
  rintro i ⟨g1, g2⟩
  repeat' (first |with_reducible (first |refine zag ?_|refine zaa ?_|refine zaf ?_|refine zac ?_|refine zar ?_|refine zah ?_|refine zan ?_|refine zae ?_|refine zai ?_|refine zao ?_|refine zaB ?_|refine zaO ?_)|refine zab rfl rfl True.intro ?_|refine zay rfl rfl rfl ?_|refine zam rfl rfl rfl rfl True.intro ?_|refine zas rfl ?_|((first |refine zad rfl ?_ ?_|refine zal rfl rfl ?_ ?_|refine zdN rfl rfl ?_ ?_)<;>intro)|((first |refine zab rfl rfl ?_ ?_|refine zam rfl rfl rfl rfl ?_ ?_);focus (first |omega|exact le_ rfl|((repeat' refine And.intro ?_ ?_)<;>omega)))|refine zat rfl ?_|refine zau rfl ?_|fail)
  · exact zaJ (iff_of_false (by simp) (by rw [zaI h0]; rintro ⟨h1, _⟩; have := h1 i (by omega); omega))
  · exact zaJ (iff_of_false (by simp) (by rw [zaI h0]; rintro ⟨h1, _⟩; have := h1 i (by omega); omega))
  · refine ⟨i + 1, ⟨by omega, fun j hj => ?_⟩, by omega, ⟨rfl, rfl, rfl, rfl, trivial⟩, ⟨rfl, trivial⟩, rfl, by rw [hX]; intro k hk; cases hk⟩
    by_cases hji : j = i
    · subst hji
      exact ⟨by omega, by omega⟩
    · exact g2 j (by omega)
  · refine zaJ ?_
    rw [zaI h0, decide_eq_true_iff]
    exact ⟨fun h => ⟨fun j hj => g2 j (by omega), by omega, ‹_›, ‹_›, ‹_›, h⟩, fun h => h.2.2.2.2.2⟩
  · exact zaJ (iff_of_false (by simp) (by rw [zaI h0]; rintro ⟨_, _, _, _, h5, _⟩; exact absurd h5 ‹_›))
  · exact zaJ (iff_of_false (by simp) (by rw [zaI h0]; rintro ⟨_, _, _, h4, _⟩; exact absurd ‹_› h4))
  · exact zaJ (iff_of_false (by simp) (by rw [zaI h0]; rintro ⟨_, _, h3, _⟩; exact absurd ‹_› h3))
  · exact zaJ (iff_of_false (by simp) (by rw [zaI h0]; rintro ⟨_, h2, _⟩; omega))
theorem zjl (c : Int) : Ctr Tryz.prog 188 [.i .u8 c] (.b (decide (48 ≤ c ∧ c ≤ 57))) := by
  refine zaE Tryz.func188 rfl Tryz.ntmps188 Tryz.results188 rfl rfl fun X hL hX => ?_
  repeat' (first |with_reducible (first |refine zag ?_|refine zaa ?_|refine zaf ?_|refine zac ?_|refine zar ?_)|refine zab rfl rfl True.intro ?_|refine zay rfl rfl rfl ?_|refine zam rfl rfl rfl rfl True.intro ?_|((first |refine zal rfl rfl ?_ ?_)<;>intro)|refine zau rfl ?_|fail)
  · congr 1
    simp [*]
  · congr 1
    simp [*]
set_option maxHeartbeats 1000000 in
theorem zcR (neg : Bool) (s : List UInt8) (e : Int) (hs : s.length ≤ 1099511627776) : Ctr Tryz.prog 135 [dcD neg s e] (.b (rightB neg s e)) := by
  refine zaE Tryz.func135 rfl Tryz.ntmps135 Tryz.results135 rfl rfl fun X hL hX => ?_
  repeat' (first |with_reducible (first |refine zag ?_|refine zaa ?_|refine zaf ?_|refine zac ?_|refine zar ?_|refine zah ?_|refine zae ?_|refine zaB ?_)|refine zab rfl rfl True.intro ?_|refine zay rfl rfl rfl ?_|refine zam rfl rfl rfl rfl True.intro ?_|refine zas rfl ?_|((first |refine zad rfl ?_ ?_|refine zal rfl rfl ?_ ?_|refine zfz rfl rfl ?_ ?_)<;>intro)|((first |refine zab rfl rfl ?_ ?_|refine zam rfl rfl rfl rfl ?_ ?_|refine zaw rfl rfl ?_ ?_);focus (first |omega|exact le_ rfl|((repeat' refine And.intro ?_ ?_)<;>omega)|((repeat' refine And.intro ?_ ?_)<;>first |rfl)))|refine zau rfl ?_|fail)
  · refine zaJ ?_
    rw [zcw (by omega)]
    simp [*]
  · refine zaJ ?_
    rw [zcw (by omega)]
    simp [*]
  · exact zaJ (iff_of_false (by simp) (by rw [zaI (by omega)]; rintro ⟨_, h2, _⟩; omega))
  · exact zaJ (iff_of_false (by simp) (by rw [zaI (by omega)]; rintro ⟨_, _, h3, _⟩; exact absurd ‹_› h3))
  · exact zaJ (iff_of_false (by simp) (by rw [zaI (by omega)]; rintro ⟨_, _, _, h4, _⟩; exact absurd ‹_› h4))
  · exact zaJ (iff_of_false (by simp) (by rw [zaI (by omega)]; rintro ⟨_, _, _, _, h5, _⟩; omega))
  · exact zaJ (iff_of_false (by simp) (by rw [zaI (by omega)]; rintro ⟨_, _, _, _, _, h6⟩; omega))
  rename_i k0 k1 k2 k3 k4 k5
  have h0 : ¬ s.length = 0 := by omega
  refine T.loop hL (fun i : Nat => [(1, .pv 1 0), (3, .i .i64 s.length), (4, .i .i64 i)]) (fun _ => [(1, .var [.b neg, .s s, .i .i64 e])]) (fun i => i ≤ s.length ∧ ∀ j : Nat, j < i → 48 ≤ at' s j ∧ at' s j ≤ 57) (fun i => s.length - i) 0
    ⟨Nat.zero_le _, fun j hj => absurd hj (Nat.not_lt_zero _)⟩ ⟨⟨rfl, rfl, rfl, trivial⟩, ⟨rfl, trivial⟩, rfl, by rw [hX]; intro k hk; cases hk⟩ ?_
  rintro i ⟨g1, g2⟩
  repeat' (first |with_reducible (first |refine zag ?_|refine zaa ?_|refine zaf ?_|refine zac ?_|refine zar ?_|refine zah ?_|refine zan ?_|refine zae ?_|refine zai ?_|refine zao ?_|refine zaB ?_|refine zaO ?_)|refine zab rfl rfl True.intro ?_|((first |refine zad rfl ?_ ?_|refine zbT rfl ?_ ?_)<;>intro)|((first |refine zab rfl rfl ?_ ?_);focus (first |omega|exact le_ rfl|((repeat' refine And.intro ?_ ?_)<;>omega)))|refine zat rfl ?_|refine zau rfl ?_|refine zaj (f := 188) rfl rfl Tryz.call188 rfl (zjl (at' s i)) ?_|fail)
  · rename_i h1 h2
    exact zaJ (iff_of_false (by simp) (by rw [zaI h0]; rintro ⟨h1, _⟩; have := h1 i (by omega); simp at h2; omega))
  · rename_i h1 h2
    have h2 : 48 ≤ at' s i ∧ at' s i ≤ 57 := by simpa using h2
    refine ⟨i + 1, ⟨by omega, fun j hj => ?_⟩, by omega, ⟨rfl, rfl, rfl, trivial⟩, ⟨rfl, trivial⟩, rfl, by rw [hX]; intro k hk; cases hk⟩
    by_cases hji : j = i
    · subst hji
      exact h2
    · exact g2 j (by omega)
  · refine zaJ (iff_of_true rfl ?_)
    rw [zaI h0]
    exact ⟨fun j hj => g2 j (by omega), by omega, k2, k3, by omega, by omega⟩
theorem zbp (l : List UInt8) : l = [] ∨ ∃ r w, l = r ++ [w] := by
  rcases List.eq_nil_or_concat l with h | ⟨r, w, h⟩
  · exact .inl h
  · exact .inr ⟨r, w, by simpa using h⟩
theorem RightP.bounds {neg : Bool} {s : List UInt8} {e : Int} (h : RightP neg s e) : s.length ≤ 100 ∧ -1000 ≤ e ∧ e ≤ 1000 ∧ digs s := by
  unfold RightP at h
  split at h
  · rename_i h0
    exact ⟨by omega, by omega, by omega, fun i hi => by omega⟩
  · exact ⟨h.2.1, h.2.2.2.2.1, h.2.2.2.2.2, h.1⟩

def lastOk (s : List UInt8) : Prop := ∀ c r, s = r ++ [c] → ¬ c = 48

abbrev tL (s : List UInt8) : List UInt8 := Lib.trimLeftB s 48
abbrev tR (s : List UInt8) : List UInt8 := Lib.trimRightB s 48
theorem zfX (r : List UInt8) (c : UInt8) : at' (r ++ [c]) (r.length : Int) = (c.toNat : Int) := by
  simp [at', List.getD_eq_getElem?_getD]
theorem zcN (r : List UInt8) : tR (r ++ [48]) = tR r := by simp [tR, Lib.trimRightB]
theorem zcE (r : List UInt8) (c : UInt8) (h : ¬ c = 48) : tR (r ++ [c]) = r ++ [c] := by simp [tR, Lib.trimRightB, h]
theorem zlf {c : UInt8} {n : Nat} (h : n < 256) : (c.toNat : Int) = n ↔ c = UInt8.ofNat n := zmb c n h
theorem zlF (s : List UInt8) (h0 : ¬ s.length = 0) (h : at' s (s.length - 1) = 48) : tR (s.take (s.length - 1)) = tR s := by
  rcases zbp s with rfl | ⟨r, c, rfl⟩
  · simp at h0
  · have e : ((r ++ [c]).length : Int) - 1 = r.length := by simp
    rw [e, zfX] at h
    obtain rfl : c = 48 := (zlf (n := 48) (by omega)).1 h
    rw [zcN]
    simp
theorem zmw (s : List UInt8) (h : s.length = 0 ∨ ¬ at' s (s.length - 1) = 48) : tR s = s := by
  rcases zbp s with rfl | ⟨r, c, rfl⟩
  · rfl
  · have e : ((r ++ [c]).length : Int) - 1 = r.length := by simp
    rw [e, zfX] at h
    refine zcE r c fun hc => ?_
    subst hc
    rcases h with h | h
    · simp at h
    · exact h rfl
theorem zml (s : List UInt8) (h0 : ¬ s.length = 0) (h : at' s 0 = 48) : tL (s.drop 1) = tL s := by
  match s, h0 with
  | c :: r, _ =>
    have h : (c.toNat : Int) = 48 := h
    obtain rfl : c = 48 := (zlf (n := 48) (by omega)).1 h
    simp [tL, Lib.trimLeftB]
theorem zmv (s : List UInt8) (h : s.length = 0 ∨ ¬ at' s 0 = 48) : tL s = s := by
  match s with
  | [] => rfl
  | c :: r =>
    have h : ¬ (c.toNat : Int) = 48 := by
      rcases h with h | h
      · simp at h
      · exact h
    have : ¬ c = 48 := fun e => h (by rw [e]; rfl)
    simp [tL, Lib.trimLeftB, this]
theorem zlo (s : List UInt8) : (tL s).length ≤ s.length := by
  unfold tL Lib.trimLeftB
  induction s with
  | nil => simp
  | cons c r ih =>
    rw [List.dropWhile_cons]
    split
    · simp only [List.length_cons]
      omega
    · simp
theorem zhi (s : List UInt8) : (tR s).length ≤ s.length := by
  have := zlo s.reverse
  unfold tR Lib.trimRightB
  unfold tL Lib.trimLeftB at this
  simpa using this
def normF (neg : Bool) (s : List UInt8) (e : Int) : (Bool × List UInt8 × Int) × Int :=
  if (tL (tR s)).length = 0 then ((false, [], 0), 0)
  else if 100 < (tL (tR s)).length then ((false, [], 0), 5)
  else if e + (s.length - (tR s).length) < -1000 ∨ 1000 < e + (s.length - (tR s).length) then ((false, [], 0), 8)
  else ((neg, tL (tR s), e + (s.length - (tR s).length)), 0)
abbrev dcV (x : Bool × List UInt8 × Int) : D := dcD x.1 x.2.1 x.2.2

def isD (c : UInt8) : Bool := decide (48 ≤ (c.toNat : Int) ∧ (c.toNat : Int) ≤ 57)
theorem zjf {c : UInt8} : isD c = true ↔ 48 ≤ (c.toNat : Int) ∧ (c.toNat : Int) ≤ 57 := by simp [isD]
def sat (s : List UInt8) (i : Nat) (c : Int) : Prop := i < s.length ∧ at' s i = c
instance (s : List UInt8) (i : Nat) (c : Int) : Decidable (sat s i c) := by unfold sat; infer_instance

abbrev zs (n : Nat) : List UInt8 := List.replicate n 48
theorem zgd (n : Nat) : Lib.repeatL [48] n = zs n := by
  induction n with
  | zero => rfl
  | succ n ih =>
    rw [Lib.repeatL, ih]
    show _ = List.replicate (n + 1) 48
    rw [List.replicate_succ]
    rfl
def textU (s : List UInt8) (e : Int) : List UInt8 :=
  if 0 ≤ e ∧ s.length + e ≤ 21 then s ++ zs e.toNat
  else if 1 ≤ s.length + e ∧ s.length + e < s.length then s.take (s.length + e).toNat ++ [46] ++ s.drop (s.length + e).toNat
  else if -6 ≤ s.length + e ∧ s.length + e ≤ 0 then [48, 46] ++ zs (-(s.length + e)).toNat ++ s
  else s.take 1 ++ (if 1 < s.length then [46] ++ s.drop 1 else []) ++ [101] ++ Lib.itoa (s.length + e - 1)
def textF (neg : Bool) (s : List UInt8) (e : Int) : List UInt8 :=
  if ¬ RightP neg s e then [] else if s.length = 0 then [48] else (if neg = true then [45] else []) ++ textU s e
theorem zji (e : Int) (h : 0 ≤ e) (h2 : e ≤ 1000000) : Ctr Tryz.prog 128 [.s [48], .i .i64 e] (.s (zs e.toNat)) := by
  obtain ⟨n, rfl⟩ := Int.eq_ofNat_of_zero_le h
  have := zhz [48] n (by omega) (by simp; omega)
  rwa [zgd] at this
theorem zfP (e : Int) (h : 0 ≤ e) (h2 : e ≤ 1000000) : Ctr Tryz.prog 141 [.i .i64 e] (.s (zs e.toNat)) := by
  obtain ⟨n, rfl⟩ := Int.eq_ofNat_of_zero_le h
  refine zaE Tryz.func141 rfl Tryz.ntmps141 Tryz.results141 rfl rfl fun X hL hX => ?_
  repeat' (first |with_reducible (first |refine zag ?_|refine zaa ?_|refine zaf ?_|refine zac ?_|refine zae ?_)|refine zab rfl rfl True.intro ?_|fail)
  refine T.loop hL (fun k : Nat => [(0, .i .i64 n), (3, .s (zs k)), (4, .i .i64 k)]) (fun _ => []) (fun k => k ≤ n) (fun k => n - k) 0 (Nat.zero_le _) ⟨⟨rfl, rfl, rfl, trivial⟩, trivial, rfl, by rw [hX]; intro k hk; cases hk⟩ ?_
  intro k hk
  have hl : (zs k).length = k := by simp
  repeat' (first |with_reducible (first |refine zag ?_|refine zaa ?_|refine zaf ?_|refine zac ?_|refine zar ?_|refine zah ?_|refine zan ?_|refine zae ?_|refine zai ?_|refine zao ?_)|refine zab rfl rfl True.intro ?_|((first |refine zad rfl ?_ ?_)<;>intro)|((first |refine zab rfl rfl ?_ ?_);focus (first |(simp only [List.length_replicate, List.length_cons, List.length_nil];omega)|omega|((repeat' refine And.intro ?_ ?_)<;>omega)))|refine zat rfl ?_|refine zau rfl ?_|fail)
  · exact ⟨k + 1, by omega, by omega, ⟨rfl, congrArg D.s (List.replicate_succ' (a := (48 : UInt8)) (n := k)).symm, rfl, trivial⟩, trivial, rfl, by rw [hX]; intro k hk; cases hk⟩
  · rw [show k = n by omega]
    simp
abbrev dig10 : List UInt8 := [48, 49, 50, 51, 52, 53, 54, 55, 56, 57]
theorem ziF : ∀ n : Nat, n < 10 → (dig10.take (n + 1)).drop n = [UInt8.ofNat (48 + n)] := by decide
theorem zcy (n : Nat) : n ≤ 1000000 → Ctr Tryz.prog 142 [.i .i64 n] (.s (Lib.decDigits n)) := by
  induction n using Nat.strongRecOn with
  | ind n ih =>
    intro hn
    have hl : (Lib.decDigits (n / 10)).length ≤ 100 := dlen (n / 10) (by omega)
    have l1 : dig10.length = 10 := rfl
    by_cases h : n < 10
    · have e : Lib.decDigits n = [UInt8.ofNat (48 + n)] := by rw [Lib.decDigits, dif_pos h]
      refine zaE Tryz.func142 rfl Tryz.ntmps142 Tryz.results142 rfl rfl fun X hL hX => ?_
      clear ih hl
      repeat' (first |with_reducible (first |refine zag ?_|refine zaa ?_|refine zaf ?_|refine zac ?_|refine zar ?_|refine zah ?_|refine zaB ?_)|refine zab rfl rfl True.intro ?_|refine zak rfl ?_|((first |refine zad rfl ?_ ?_)<;>intro<;>try (first |(exfalso;omega)))|((first |refine zab rfl rfl ?_ ?_);focus (first |omega|((repeat' refine And.intro ?_ ?_)<;>omega)|((repeat' refine And.intro ?_ ?_)<;>first |omega)|(simp_all;omega)))|refine zau rfl ?_|fail)
      rw [e, ← ziF n h]
      rfl
    · have e : Lib.decDigits n = Lib.decDigits (n / 10) ++ [UInt8.ofNat (48 + n % 10)] := by rw [Lib.decDigits, dif_neg h]
      have c := ih (n / 10) (by omega) (by omega)
      refine zaE Tryz.func142 rfl Tryz.ntmps142 Tryz.results142 rfl rfl fun X hL hX => ?_
      clear ih
      repeat' (first |with_reducible (first |refine zag ?_|refine zaa ?_|refine zaf ?_|refine zac ?_|refine zar ?_|refine zah ?_|refine zaH ?_)|refine zab rfl rfl True.intro ?_|refine zak rfl ?_|((first |refine zad rfl ?_ ?_)<;>intro<;>try (first |(exfalso;omega)))|((first |refine zab rfl rfl ?_ ?_);focus (first |(simp only [List.length_drop, List.length_take];omega)|omega|((repeat first |rw [wi6_]);(repeat' refine And.intro ?_ ?_)<;>omega)|((repeat' refine And.intro ?_ ?_)<;>first |omega)|(simp_all;omega)))|with_reducible refine ⟨by kernel_rfl, ?_⟩|refine zau rfl ?_|refine zaj (f := 142) rfl rfl Tryz.call142 rfl c ?_|fail)
      rw [e, ← ziF (n % 10) (by omega)]
      rfl
where
  dlen (n : Nat) (h : n ≤ 1000000) : (Lib.decDigits n).length ≤ 100 := by
    have key : ∀ (k n : Nat), n < 10 ^ k → (Lib.decDigits n).length ≤ k + 1 := by
      intro k
      induction k with
      | zero => intro n hn; rw [Lib.decDigits, dif_pos (by omega)]; simp
      | succ k ih =>
        intro n hn
        rw [Lib.decDigits]
        split
        · simp
        · have := ih (n / 10) (by rw [Nat.pow_succ] at hn; omega)
          simp
          omega
    have := key 7 n (by omega)
    omega
theorem zll (n : Int) (h0 : -1000000 ≤ n) (h1 : n ≤ 1000000) : Ctr Tryz.prog 142 [.i .i64 n] (.s (Lib.itoa n)) := by
  unfold Lib.itoa
  by_cases h : n < 0
  · rw [if_pos h]
    have c := zcy n.natAbs (by omega)
    rw [show ((n.natAbs : Nat) : Int) = -n by omega] at c
    have hl := zcy.dlen n.natAbs (by omega)
    generalize Lib.decDigits n.natAbs = ds at c hl ⊢
    refine zaE Tryz.func142 rfl Tryz.ntmps142 Tryz.results142 rfl rfl fun X hL hX => ?_
    repeat' (first |with_reducible (first |refine zag ?_|refine zaa ?_|refine zaf ?_|refine zac ?_|refine zar ?_|refine zaB ?_)|refine zab rfl rfl True.intro ?_|((first |refine zad rfl ?_ ?_)<;>intro<;>try (first |(exfalso;omega)))|((first |refine zab rfl rfl ?_ ?_);focus (first |(simp only [List.length_cons, List.length_nil];omega)|omega|((repeat' refine And.intro ?_ ?_)<;>omega)))|refine zau rfl ?_|refine zaj (f := 142) rfl rfl Tryz.call142 rfl c ?_|fail)
    rfl
  · rw [if_neg h]
    have c := zcy n.toNat (by omega)
    rwa [show ((n.toNat : Nat) : Int) = n by omega] at c
theorem zhf (n : Int) (h0 : -1000000 ≤ n) (h1 : n ≤ 1000000) : (Lib.itoa n).length ≤ 101 := by
  unfold Lib.itoa
  split
  · have := zcy.dlen n.natAbs (by omega)
    simp only [List.length_cons]
    omega
  · have := zcy.dlen n.toNat (by omega)
    omega

theorem zdf {k : Nat} (h : ¬ k < 10) : Lib.decDigits k = Lib.decDigits (k / 10) ++ [UInt8.ofNat (48 + k % 10)] := by rw [Lib.decDigits, dif_neg h]
theorem zbg {k : Nat} (h : k < 10) : Lib.decDigits k = [UInt8.ofNat (48 + k)] := by rw [Lib.decDigits, dif_pos h]
theorem zgu {n : Nat} (h : n < 10) : isD (UInt8.ofNat (48 + n)) = true ∧ (UInt8.ofNat (48 + n)).toNat = 48 + n := by
  have : (UInt8.ofNat (48 + n)).toNat = 48 + n := by simp; omega
  exact ⟨zjf.2 (by omega), this⟩
theorem zmj (k : Nat) : ∀ c ∈ Lib.decDigits k, isD c = true := by
  induction k using Nat.strongRecOn with
  | ind k ih =>
    by_cases h : k < 10
    · rw [zbg h]
      intro c hc
      rw [List.mem_singleton.1 hc]
      exact (zgu h).1
    · rw [zdf h]
      intro c hc
      rcases List.mem_append.1 hc with hc | hc
      · exact ih (k / 10) (by omega) c hc
      · rw [List.mem_singleton.1 hc]
        exact (zgu (by omega)).1
theorem zfw (k : Nat) (h : ¬ k = 0) : ∃ c l, Lib.decDigits k = c :: l ∧ ¬ c = 48 := by
  induction k using Nat.strongRecOn with
  | ind k ih =>
    by_cases h2 : k < 10
    · refine ⟨_, [], zbg h2, fun h3 => ?_⟩
      have := congrArg UInt8.toNat h3
      rw [(zgu h2).2] at this
      have : (48 : UInt8).toNat = 48 := rfl
      omega
    · obtain ⟨c, l, h3, h4⟩ := ih (k / 10) (by omega) (by omega)
      exact ⟨c, l ++ [UInt8.ofNat (48 + k % 10)], by rw [zdf h2, h3]; rfl, h4⟩
theorem zcP (k n : Nat) (h : k < 10 ^ n) (hn : 1 ≤ n) : (Lib.decDigits k).length ≤ n := by
  induction n generalizing k with
  | zero => omega
  | succ n ih =>
    by_cases h2 : k < 10
    · rw [zbg h2]
      simp
    · rw [zdf h2, List.length_append, List.length_singleton]
      rw [Nat.pow_succ] at h
      by_cases hz : n = 0
      · subst hz
        omega
      · have := ih (k / 10) (by omega) (by omega)
        omega
def dig0 (k : Nat) : List UInt8 := if k = 0 then [] else Lib.decDigits k
theorem ziZ {k : Nat} (h : ¬ k = 0) : dig0 k = dig0 (k / 10) ++ [UInt8.ofNat (48 + k % 10)] := by
  unfold dig0
  rw [if_neg h]
  by_cases h2 : k < 10
  · rw [zbg h2, if_pos (by omega), show k % 10 = k by omega]
    rfl
  · rw [zdf h2, if_neg (by omega)]
theorem zjq (neg : Bool) (e : Int) : normF neg [] e = ((false, [], 0), 0) := rfl
theorem zdj (neg : Bool) (e : Int) : normF neg [48] e = ((false, [], 0), 0) := by
  unfold normF
  rw [if_pos (by decide)]
theorem zjI (neg : Bool) (k : Nat) (e : Int) : normF neg (dig0 k) e = normF neg (Lib.decDigits k) e := by
  unfold dig0
  split
  · rename_i h
    subst h
    rw [zjq, show Lib.decDigits 0 = [48] from zbg (by omega), zdj]
  · rfl

theorem zeO (s : List UInt8) : s = tR s ++ zs (s.length - (tR s).length) := by
  have key : ∀ (n : Nat) (s : List UInt8), s.length = n → s = tR s ++ zs (s.length - (tR s).length) := by
    intro n
    induction n with
    | zero =>
      intro s h
      obtain rfl := List.length_eq_zero_iff.1 h
      rfl
    | succ n ih =>
      intro s h
      rcases zbp s with rfl | ⟨r, c, rfl⟩
      · simp at h
      · by_cases hc : c = 48
        · subst hc
          rw [zcN]
          have h1 := ih r (by simpa using h)
          have h2 := zhi r
          rw [List.length_append, List.length_singleton, show r.length + 1 - (tR r).length = (r.length - (tR r).length) + 1 by omega]
          unfold zs at h1 ⊢
          rw [List.replicate_succ', ← List.append_assoc, ← h1]
        · rw [zcE r c hc]
          simp
  exact key _ s rfl
theorem zmW {s : List UInt8} {c : UInt8} (h : c ∈ tR s) : c ∈ s := by
  rw [zeO s]
  exact List.mem_append_left _ h
theorem zjF (s : List UInt8) : lastOk (tR s) := by
  have key : ∀ (n : Nat) (s : List UInt8), s.length = n → lastOk (tR s) := by
    intro n
    induction n with
    | zero =>
      intro s h
      obtain rfl := List.length_eq_zero_iff.1 h
      intro c r e
      have : tR [] = [] := rfl
      rw [this] at e
      simp at e
    | succ n ih =>
      intro s h
      rcases zbp s with rfl | ⟨r, c, rfl⟩
      · simp at h
      · by_cases hc : c = 48
        · subst hc
          rw [zcN]
          exact ih r (by simpa using h)
        · rw [zcE r c hc]
          intro d q e
          have := congrArg List.getLast? e
          simp at this
          rw [← this]
          exact hc
  exact key _ s rfl
theorem zkE {c : UInt8} {l : List UInt8} (h : ¬ c = 48) : tL (c :: l) = c :: l := by
  unfold tL Lib.trimLeftB
  rw [List.dropWhile_cons]
  simp [h]
theorem zhc {c : UInt8} {l : List UInt8} (h : ¬ c = 48) : ∃ m, tR (c :: l) = c :: m := by
  have h1 := zeO (c :: l)
  match hm : tR (c :: l) with
  | [] =>
    rw [hm] at h1
    simp only [List.length_cons, List.length_nil, Nat.sub_zero, List.nil_append] at h1
    unfold zs at h1
    rw [List.replicate_succ] at h1
    exact absurd (List.cons.inj h1).1 h
  | d :: m =>
    rw [hm] at h1
    have := (List.cons.inj h1).1
    exact ⟨m, by rw [this]⟩
def ofF (n e : Int) : Bool × List UInt8 × Int := if e < -2000 ∨ 2000 < e then (false, [], 0) else (normF (decide (n < 0)) (Lib.decDigits n.natAbs) e).1
theorem zha (e : Int) : ofF 0 e = (false, [], 0) := by
  unfold ofF
  split
  · rfl
  · show (normF false (Lib.decDigits 0) e).1 = _
    rw [show Lib.decDigits 0 = [48] from zbg (by omega), zdj]
theorem zmx (n e : Int) (h0 : -9223372036854775808 ≤ n) (h1 : n ≤ 9223372036854775807) : (ofF n e).2.1.length ≤ 1000 := by
  have h := zcP n.natAbs 19 (by omega) (by omega)
  have h2 := zhi (Lib.decDigits n.natAbs)
  have h3 := zlo (tR (Lib.decDigits n.natAbs))
  unfold ofF normF
  repeat' split
  all_goals first | decide | (dsimp only; omega)

theorem zks (n : Int) : (n < 0 → Lib.itoa n = 45 :: Lib.decDigits n.natAbs) ∧ (¬ n < 0 → Lib.itoa n = Lib.decDigits n.natAbs) := by
  unfold Lib.itoa
  constructor
  · intro h
    rw [if_pos h]
  · intro h
    rw [if_neg h, show n.toNat = n.natAbs by omega]
end Go.Proofs.YtkkaamhocpmhkaaGreatDoor.Flow
