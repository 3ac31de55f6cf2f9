/- The texts J1, G1, G2, G3, G4, G5, one behind the other. -/
import Derived.Test.YtcajofhafpkbdaaGreatDoorCT8
import Derived.Test.YtcajofhafpkbdaaGreatDoorCT9
import Derived.Test.YtcajofhafpkbdaaGreatDoorCT11
namespace Go.Proofs.YtcajofhafpkbdaaGreatDoor.Flow
open Go
inductive J where
  | mk (kind : Int) (yes neg : Bool) (dig : List UInt8) (exp : Int) (text : List UInt8) (list : List J) (keys : List (List UInt8))
def txF (l : List (List UInt8)) : Nat → List D := fun i => [.s (l.getD i [])]
mutual
def jC : J → List D
  | .mk k y n d e t l ks => [.i .i64 k, .b y, .b n, .s d, .i .i64 e, .s t, .sl 8 l.length (jF l), .sl 1 ks.length (txF ks)]
def jF : List J → Nat → List D
  | [], _ => []
  | x :: _, 0 => jC x
  | _ :: r, i + 1 => jF r i
end
def j0 : J := .mk 0 false false [] 0 [] [] []
def j0C : List D := [.i .i64 0, .b false, .b false, .s [], .i .i64 0, .s [], .nilS, .nilS]
theorem zsd : ∀ {l : List J} {i : Nat}, i < l.length → jF l i = jC (l.getD i j0)
  | [], _, h => by simp at h
  | x :: r, 0, _ => by rw [jF]; rfl
  | x :: r, i + 1, h => by
    rw [jF, zsd (l := r) (by simpa using h)]
    rfl
abbrev JR := Sum (J × Nat) (Nat × Int)
def blkB (c : UInt8) : Bool := decide (c = 32 ∨ c = 9 ∨ c = 10 ∨ c = 13)
def skN (s : List UInt8) (i : Nat) : Nat := i + ((s.drop i).takeWhile blkB).length
def jpeek (s : List UInt8) (i : Nat) : Sum Nat (Nat × Int) := if skN s i < s.length then .inl (skN s i) else .inr (skN s i, 2)
def jword (s : List UInt8) (i : Nat) (w : List UInt8) (x : J) : JR := if Lib.hasPrefix (s.drop i) w = true then .inl (x, i + w.length) else .inr (i, 3)
def jtext (s : List UInt8) (i : Nat) : Sum (List UInt8 × Nat) (Nat × Int) := if (unqF s i).2.2 = 0 then .inl ((unqF s i).1, (unqF s i).2.1.toNat) else .inr (i, (unqF s i).2.2)
def jnumV (r : Bool × List UInt8 × Int) : J := .mk 2 false r.1 r.2.1 r.2.2 [] [] []
def jnum (s : List UInt8) (i : Nat) : JR := if (parseG powP (s.drop i)).2.2 = 0 then .inl (jnumV (parseG powP (s.drop i)).1, i + (parseG powP (s.drop i)).2.1) else .inr (i, (parseG powP (s.drop i)).2.2)
def jkey (s : List UInt8) (i : Nat) (ks : List (List UInt8)) : Sum (List UInt8 × Nat) (Nat × Int) :=
  match jpeek s i with
  | .inr e => .inr e
  | .inl j => if ¬ at' s j = 34 then .inr (j, 3) else
    match jtext s j with
    | .inr e => .inr e
    | .inl (k, n) => if k ∈ ks then .inr (j, 3) else
      match jpeek s n with
      | .inr e => .inr e
      | .inl m => if ¬ at' s m = 58 then .inr (m, 3) else .inl (k, m + 1)
def jkeys (s : List UInt8) (mp : Bool) (i : Nat) (ks : List (List UInt8)) : Sum (List (List UInt8) × Nat) (Nat × Int) :=
  if mp = true then (match jkey s i ks with
    | .inl (k, n) => .inl (ks ++ [k], n)
    | .inr e => .inr e) else .inl (ks, i)
def kindM (mp : Bool) : Int := if mp = true then 5 else 4
def endM (mp : Bool) : Int := if mp = true then 125 else 93
def manyV (mp : Bool) (l : List J) (ks : List (List UInt8)) : J := .mk (kindM mp) false false [] 0 [] l ks
def jgo (s : List UInt8) (val : Nat → JR) (mp : Bool) (i : Nat) (l : List J) (ks : List (List UInt8)) : JR :=
  match jkeys s mp i ks with
  | .inr e => .inr e
  | .inl (ks', i1) =>
    match val i1 with
    | .inr e => .inr e
    | .inl (x, i2) =>
      match jpeek s i2 with
      | .inr e => .inr e
      | .inl i3 => if at' s i3 = endM mp then .inl (manyV mp (l ++ [x]) ks', i3 + 1)
        else if at' s i3 = 44 then (if i ≤ i3 ∧ i3 < s.length then jgo s val mp (i3 + 1) (l ++ [x]) ks' else .inr (0, 3)) else .inr (i3, 3)
termination_by s.length - i
def jmany (s : List UInt8) (val : Nat → JR) (mp : Bool) (i : Nat) : JR :=
  match jpeek s (i + 1) with
  | .inr e => .inr e
  | .inl j => if at' s j = endM mp then .inl (manyV mp [] [], j + 1) else jgo s val mp j [] []
def nullW : List UInt8 := [110, 117, 108, 108]
def trueW : List UInt8 := [116, 114, 117, 101]
def falseW : List UInt8 := [102, 97, 108, 115, 101]
def jval (s : List UInt8) : Nat → Nat → JR
  | d, i => match jpeek s i with
    | .inr e => .inr e
    | .inl j => match d with
      | 0 => .inr (j, 9)
      | d + 1 => if at' s j = 110 then jword s j nullW j0
        else if at' s j = 116 then jword s j trueW (.mk 1 true false [] 0 [] [] [])
        else if at' s j = 102 then jword s j falseW (.mk 1 false false [] 0 [] [] [])
        else if at' s j = 34 then (match jtext s j with
          | .inl (t, n) => .inl (.mk 3 false false [] 0 t [] [], n)
          | .inr e => .inr e)
        else if at' s j = 91 then jmany s (jval s d) false j
        else if at' s j = 123 then jmany s (jval s d) true j
        else jnum s j
def jparse (s : List UInt8) : J × Nat × Int := if 1048576 < s.length then (j0, 0, 5) else
  match jval s 64 0 with
  | .inr (p, e) => (j0, p, e)
  | .inl (x, n) => if skN s n < s.length then (j0, skN s n, 3) else (x, s.length, 0)
theorem zfV {s : List UInt8} {i : Nat} (h : i ≤ s.length) : i ≤ skN s i ∧ skN s i ≤ s.length := by
  have h1 : ((s.drop i).takeWhile blkB).length ≤ (s.drop i).length := (List.takeWhile_sublist _).length_le
  rw [List.length_drop] at h1
  unfold skN
  omega
theorem zqE {s : List UInt8} {i : Nat} (h : skN s i < s.length) : blkB (s.getD (skN s i) 0) = false := by
  have key : ∀ q : List UInt8, (q.takeWhile blkB).length < q.length → blkB (q.getD (q.takeWhile blkB).length 0) = false := by
    intro q
    induction q with
    | nil => intro h; simp at h
    | cons c q ih =>
      intro h
      by_cases hc : blkB c = true
      · rw [List.takeWhile_cons, if_pos hc] at h ⊢
        exact ih (by simpa using h)
      · rw [List.takeWhile_cons, if_neg hc]
        simpa using hc
  have := key (s.drop i) (by unfold skN at h; rw [List.length_drop]; omega)
  unfold skN
  simpa [List.getD_eq_getElem?_getD] using this
theorem zqF {s : List UInt8} {i : Nat} (h : blkB (s.getD i 0) = false) : skN s i = i := by
  unfold skN
  by_cases hi : i < s.length
  · rw [List.drop_eq_getElem_cons hi, List.takeWhile_cons, if_neg]
    · rfl
    · have : s[i] = s.getD i 0 := by simp [List.getD_eq_getElem?_getD, hi]
      rw [this, h]
      exact Bool.false_ne_true
  · rw [List.drop_eq_nil_of_le (by omega)]
    rfl
theorem zaV {s : List UInt8} {i j : Nat} (hi : i ≤ s.length) (h : jpeek s i = .inl j) : i ≤ j ∧ j < s.length ∧ j = skN s i := by
  unfold jpeek at h
  split at h
  · cases h
    have := zfV hi
    exact ⟨this.1, ‹_›, rfl⟩
  · cases h
theorem zgE (s : List UInt8) : ∀ (n : Nat) (i : Int) (o : List UInt8), 0 ≤ i → i ≤ s.length → (unqG s n i o).2.2 = 0 → i < (unqG s n i o).2.1 ∧ (unqG s n i o).2.1 ≤ s.length
  | 0, i, o, _, _, h => by
    unfold unqG at h
    cases h
  | n + 1, i, o, h0, h1, h => by
    unfold unqG at h ⊢
    by_cases hi : i < s.length
    · rw [if_pos hi] at h ⊢
      by_cases hq : at' s i = 34
      · rw [if_pos hq] at h ⊢
        by_cases hv : validL o = true
        · rw [if_pos hv]
          dsimp only
          omega
        · rw [if_neg hv] at h
          cases h
      · rw [if_neg hq] at h ⊢
        by_cases he : at' s i = 92
        · rw [if_pos he] at h ⊢
          have hr := zdH s (i + 1) o (by omega) (by omega)
          by_cases hz : (escP s (i + 1) o).2.2 = 0
          · rw [if_pos hz] at h ⊢
            have := zgE s n _ _ (by omega) (by omega) h
            omega
          · rw [if_neg hz] at h
            exact absurd h hz
        · rw [if_neg he] at h ⊢
          by_cases hl : at' s i < 32
          · rw [if_pos hl] at h
            cases h
          · rw [if_neg hl] at h ⊢
            have := zgE s n _ _ (by omega) (by omega) h
            omega
    · rw [if_neg hi] at h
      cases h
theorem zlm {s : List UInt8} {i : Int} (h : (unqF s i).2.2 = 0) : i < (unqF s i).2.1 ∧ (unqF s i).2.1 ≤ s.length ∧ 0 ≤ i := by
  unfold unqF at h ⊢
  by_cases hb : i < 0 ∨ s.length < i
  · rw [if_pos hb] at h
    cases h
  · rw [if_neg hb] at h ⊢
    have hm := zbu s i 0 34 (by omega) (by omega)
    by_cases hz : (mustF s i 0 34).2 = 0
    · rw [if_pos hz] at h ⊢
      have := zgE s _ _ _ (by omega) (by omega) h
      omega
    · rw [if_neg hz] at h
      exact absurd h hz
theorem zhV {s t : List UInt8} {i n : Nat} (h : jtext s i = .inl (t, n)) : i < n ∧ n ≤ s.length := by
  unfold jtext at h
  split at h
  · rename_i hz
    have := zlm hz
    cases h
    omega
  · cases h

structure SrcR where
  arch : Txt
  lays : List Fld
  csv : Txt
  key : Txt
  attr : Txt
  only : List Txt
  notl : List Txt
  texts : Bool
  drop : Bool
def sameS (a b : SrcR) : Prop := a.arch = b.arch ∧ a.lays = b.lays ∧ a.csv = b.csv ∧ a.key = b.key ∧ a.attr = b.attr ∧ a.only = b.only ∧ a.notl = b.notl ∧ a.texts = b.texts ∧ a.drop = b.drop
instance (a b : SrcR) : Decidable (sameS a b) := by unfold sameS; infer_instance
theorem zjp (a b : SrcR) : sameS a b ↔ a = b := by
  constructor
  · intro h
    obtain ⟨a1, a2, a3, a4, a5, a6, a7, a8, a9⟩ := a
    obtain ⟨h1, h2, h3, h4, h5, h6, h7, h8, h9⟩ := h
    cases h1
    cases h2
    cases h3
    cases h4
    cases h5
    cases h6
    cases h7
    cases h8
    cases h9
    rfl
  · rintro rfl
    exact ⟨rfl, rfl, rfl, rfl, rfl, rfl, rfl, rfl, rfl⟩
instance : DecidableEq SrcR := fun a b => decidable_of_iff _ (zjp a b)
def s0R : SrcR := ⟨[], [], [], [], [], [], [], false, false⟩
def srcP (s : SrcR) : List D := [.s s.arch, .sl 2 s.lays.length (fldF s.lays), .s s.csv, .s s.key, .s s.attr, .sl 1 s.only.length (txF s.only), .sl 1 s.notl.length (txF s.notl), .b s.texts, .b s.drop]
def srcF (l : List SrcR) : Nat → List D := fun i => srcP (l.getD i s0R)
structure CmpR where
  id : Txt
  srcs : List SrcR
  buf : Int
  mx : Int
  lim : Int
def sameC (a b : CmpR) : Prop := a.id = b.id ∧ a.srcs = b.srcs ∧ a.buf = b.buf ∧ a.mx = b.mx ∧ a.lim = b.lim
instance (a b : CmpR) : Decidable (sameC a b) := by unfold sameC; infer_instance
theorem ziY (a b : CmpR) : sameC a b ↔ a = b := by
  constructor
  · intro h
    obtain ⟨a1, a2, a3, a4, a5⟩ := a
    obtain ⟨h1, h2, h3, h4, h5⟩ := h
    cases h1
    cases h2
    cases h3
    cases h4
    cases h5
    rfl
  · rintro rfl
    exact ⟨rfl, rfl, rfl, rfl, rfl⟩
instance : DecidableEq CmpR := fun a b => decidable_of_iff _ (ziY a b)
def c0R : CmpR := ⟨[], [], 0, 0, 0⟩
def cmpP (c : CmpR) : List D := [.s c.id, .sl 9 c.srcs.length (srcF c.srcs), .i .i64 c.buf, .i .i64 c.mx, .i .i64 c.lim]
def cmpF (l : List CmpR) : Nat → List D := fun i => cmpP (l.getD i c0R)
def smallS (s : SrcR) : Prop := s.lays.length ≤ 4194304 ∧ s.only.length ≤ 4194304 ∧ s.notl.length ≤ 4194304
def smallC (c : CmpR) : Prop := c.srcs.length ≤ 4194304 ∧ ∀ i, smallS (c.srcs.getD i s0R)
def smallL (l : List CmpR) : Prop := l.length ≤ 4194304 ∧ ∀ i, smallC (l.getD i c0R)
theorem zdG {α : Type} (d : α) {a b : List α} {i : Nat} (h : a.take i = b.take i) (ha : i < a.length) (hb : i < b.length) (he : a.getD i d = b.getD i d) : a.take (i + 1) = b.take (i + 1) := by
  rw [List.take_add_one, List.take_add_one, h]
  simp only [List.getD_eq_getElem?_getD, List.getElem?_eq_getElem ha, List.getElem?_eq_getElem hb, Option.getD_some, Option.toList_some] at he ⊢
  rw [he]
theorem zem {α : Type} {a b : List α} {i : Nat} (h : a.take i = b.take i) (hl : a.length = b.length) (hi : a.length ≤ i) : a = b := by
  rwa [List.take_of_length_le hi, List.take_of_length_le (by omega)] at h

theorem zey (a b : List Txt) (ha : a.length ≤ 4194304) (_hb : b.length ≤ 4194304) : Ctr Tryz.prog 44 [.sl 1 a.length (txF a), .sl 1 b.length (txF b)] (.b (decide (a = b))) := by
  refine zaE Tryz.func44 rfl Tryz.ntmps44 Tryz.results44 rfl rfl fun X hL hX => ?_
  by_cases hlen : a.length = b.length
  rotate_left
  · skip
    repeat' (first |with_reducible (first |refine zag ?_|refine zaa ?_|refine zaf ?_|refine zad ?_|refine zaj ?_|refine zam ?_)|refine zab rfl rfl True.intro ?_|((first |refine zaC rfl ?_ ?_)<;>intro<;>try (first |(exfalso;omega)))|refine zau rfl ?_|fail)
    all_goals exact congrArg D.b (decide_eq_false fun h => hlen (by rw [h])).symm
  repeat' (first |with_reducible (first |refine zag ?_|refine zaa ?_|refine zaf ?_|refine zad ?_|refine zah ?_|refine zae ?_)|refine zab rfl rfl True.intro ?_|((first |refine zaC rfl ?_ ?_)<;>intro<;>try (first |(exfalso;omega)))|fail)
  refine T.loop hL (fun i : Nat => [(0, .sl 1 a.length (txF a)), (1, .sl 1 b.length (txF b)), (5, .i .i64 i)]) (fun _ => [])
    (fun i => i ≤ a.length ∧ a.take i = b.take i) (fun i => a.length - i) 0 ⟨by omega, by simp⟩
    ⟨⟨rfl, rfl, rfl, trivial⟩, trivial, rfl, by rw [hX]; simp⟩ ?_
  rintro i ⟨h1, h2⟩
  try dsimp only at h1 h2 ⊢
  by_cases hlt : i < a.length
  rotate_left
  · have he : a = b := zem h2 hlen (by omega)
    repeat' (first |with_reducible (first |refine zag ?_|refine zaa ?_|refine zaf ?_|refine zad ?_|refine zaj ?_|refine zaA ?_|refine zaz ?_)|refine zab rfl rfl True.intro ?_|((first |refine zac rfl ?_ ?_)<;>intro<;>try (first |(exfalso;omega)))|refine zaO rfl ?_|refine zau rfl ?_|fail)
    all_goals exact congrArg D.b (decide_eq_true he).symm
  by_cases he : a.getD i [] = b.getD i []
  · have hn := zdG [] h2 hlt (by omega) he
    have he' : (a.getD (i : Int).toNat [] == b.getD (i : Int).toNat []) = true := by rw [Int.toNat_natCast, he]; exact beq_self_eq_true _
    repeat' (first |with_reducible (first |refine zag ?_|refine zaa ?_|refine zaf ?_|refine zad ?_|refine zaj ?_|refine zah ?_|refine zae ?_|refine zap ?_|refine zam ?_|refine zar ?_|refine zaB ?_)|refine zab rfl rfl True.intro ?_|((first |refine zac rfl ?_ ?_|refine zbr rfl ?_ ?_)<;>intro<;>try (first |(exfalso;omega)))|((first |refine zab rfl rfl ?_ ?_);focus (first |omega|exact le_ rfl))|with_reducible refine ⟨by kernel_rfl, ?_⟩|refine zau rfl ?_|fail)
    all_goals first
      | exact ⟨i + 1, ⟨by omega, hn⟩, by omega, ⟨rfl, rfl, rfl, trivial⟩, trivial, rfl, by rw [hX]; simp⟩
      | exact Bool.noConfusion (he'.symm.trans (by assumption : _ = false))
      | trace_state
  · have hne : a ≠ b := fun h => he (by rw [h])
    have he' : (a.getD (i : Int).toNat [] == b.getD (i : Int).toNat []) = false := by rw [Int.toNat_natCast]; exact beq_eq_false_iff_ne.2 he
    repeat' (first |with_reducible (first |refine zag ?_|refine zaa ?_|refine zaf ?_|refine zad ?_|refine zaj ?_|refine zah ?_|refine zae ?_|refine zap ?_|refine zam ?_|refine zar ?_|refine zaB ?_)|refine zab rfl rfl True.intro ?_|((first |refine zac rfl ?_ ?_|refine zbr rfl ?_ ?_)<;>intro<;>try (first |(exfalso;omega)))|((first |refine zab rfl rfl ?_ ?_);focus (first |omega|exact le_ rfl))|with_reducible refine ⟨by kernel_rfl, ?_⟩|refine zau rfl ?_|fail)
    all_goals first
      | exact congrArg D.b (decide_eq_false hne).symm
      | exact Bool.noConfusion ((by assumption : _ = true).symm.trans he')
      | trace_state

theorem zqO (a b : SrcR) : decide (a = b) = decide (sameS a b) := decide_eq_decide.2 (zjp a b).symm
set_option maxRecDepth 100000 in
set_option maxHeartbeats 16000000 in
theorem zml (a b : SrcR) (ha : smallS a) (hb : smallS b) : Ctr Tryz.prog 20 [.ag (srcP a), .ag (srcP b)] (.b (decide (a = b))) := by
  obtain ⟨a1, a2, a3⟩ := ha
  obtain ⟨b1, b2, b3⟩ := hb
  have c2 := zey a.only b.only a2 b2
  have c3 := zey a.notl b.notl a3 b3
  refine zaE Tryz.func20 rfl Tryz.ntmps20 Tryz.results20 rfl rfl fun X hL hX => ?_
  by_cases h1 : a.arch = b.arch
  rotate_left
  · have h1' : ¬ (a.arch == b.arch) = true := fun h => h1 (beq_iff_eq.1 h)
    repeat' (first |with_reducible (first |refine zag ?_|refine zaa ?_|refine zaf ?_|refine zad ?_|refine zaj ?_|refine zam ?_)|refine zab rfl rfl True.intro ?_|refine zat rfl rfl rfl ?_|refine zav rfl ?_|((first |refine zaD rfl rfl ?_ ?_)<;>intro<;>try (first |contradiction))|((first |refine zab rfl rfl ?_ ?_|refine zao rfl rfl ?_ ?_);focus (first |exact le_ rfl|((repeat' refine And.intro ?_ ?_)<;>omega)|((repeat' refine And.intro ?_ ?_)<;>first |rfl)))|refine zau rfl ?_|fail)
    all_goals exact congrArg D.b (decide_eq_false fun h => h1 (by rw [h])).symm
  have h1' : ¬ (a.arch == b.arch) = false := fun h => beq_eq_false_iff_ne.1 h h1
  by_cases h2 : a.csv = b.csv
  rotate_left
  · have h2' : ¬ (a.csv == b.csv) = true := fun h => h2 (beq_iff_eq.1 h)
    repeat' (first |with_reducible (first |refine zag ?_|refine zaa ?_|refine zaf ?_|refine zad ?_|refine zaj ?_|refine zam ?_)|refine zab rfl rfl True.intro ?_|refine zat rfl rfl rfl ?_|refine zak rfl rfl rfl rfl True.intro ?_|refine zav rfl ?_|((first |refine zaD rfl rfl ?_ ?_)<;>intro<;>try (first |contradiction))|((first |refine zab rfl rfl ?_ ?_|refine zak rfl rfl rfl rfl ?_ ?_|refine zao rfl rfl ?_ ?_);focus (first |exact le_ rfl|((repeat' refine And.intro ?_ ?_)<;>omega)|((repeat' refine And.intro ?_ ?_)<;>first |rfl)))|refine zau rfl ?_|fail)
    all_goals exact congrArg D.b (decide_eq_false fun h => h2 (by rw [h])).symm
  have h2' : ¬ (a.csv == b.csv) = false := fun h => beq_eq_false_iff_ne.1 h h2
  by_cases h3 : a.lays.length = b.lays.length
  rotate_left
  · have h3' : ¬ (a.lays.length : Int) = b.lays.length := by omega
    repeat' (first |with_reducible (first |refine zag ?_|refine zaa ?_|refine zaf ?_|refine zad ?_|refine zaj ?_|refine zam ?_)|refine zab rfl rfl True.intro ?_|refine zak rfl rfl rfl rfl True.intro ?_|((first |refine zaC rfl ?_ ?_|refine zaD rfl rfl ?_ ?_)<;>intro<;>try (first |contradiction))|((first |refine zab rfl rfl ?_ ?_|refine zak rfl rfl rfl rfl ?_ ?_|refine zao rfl rfl ?_ ?_);focus (first |exact le_ rfl|((repeat' refine And.intro ?_ ?_)<;>omega)|((repeat' refine And.intro ?_ ?_)<;>first |rfl)))|refine zau rfl ?_|fail)
    all_goals exact congrArg D.b (decide_eq_false fun h => h3 (by rw [h])).symm
  have h3' : (a.lays.length : Int) = b.lays.length := by omega
  repeat' (first |with_reducible (first |refine zag ?_|refine zaa ?_|refine zaf ?_|refine zad ?_|refine zah ?_|refine zae ?_)|refine zab rfl rfl True.intro ?_|refine zak rfl rfl rfl rfl True.intro ?_|((first |refine zaC rfl ?_ ?_|refine zaD rfl rfl ?_ ?_)<;>intro<;>try (first |contradiction))|((first |refine zab rfl rfl ?_ ?_|refine zak rfl rfl rfl rfl ?_ ?_|refine zao rfl rfl ?_ ?_);focus (first |exact le_ rfl|((repeat' refine And.intro ?_ ?_)<;>omega)|((repeat' refine And.intro ?_ ?_)<;>first |rfl)))|fail)
  refine T.loop hL (fun i : Nat => [(2, .pv 2 0), (3, .pv 3 0), (5, .i .i64 i)]) (fun _ => [(2, .var (srcP a)), (3, .var (srcP b))])
    (fun i => i ≤ a.lays.length ∧ a.lays.take i = b.lays.take i) (fun i => a.lays.length - i) 0 ⟨by omega, by simp⟩
    ⟨⟨rfl, rfl, rfl, trivial⟩, ⟨rfl, rfl, trivial⟩, rfl, by rw [hX]; simp⟩ ?_
  rintro i ⟨g1, g2⟩
  try dsimp only at g1 g2 ⊢
  by_cases hlt : i < a.lays.length
  rotate_left
  · have he : a.lays = b.lays := zem g2 h3 (by omega)
    rw [zqO]
    unfold sameS
    clear h3 h3'
    have hlt' : ¬ (i : Int) < a.lays.length := by omega
    repeat' (first |refine zaK (f := 44) rfl rfl rfl rfl Tryz.call44 rfl c2 ?_|refine zaK (f := 44) rfl rfl rfl rfl Tryz.call44 rfl c3 ?_|with_reducible (first |refine zag ?_|refine zaa ?_|refine zaf ?_|refine zad ?_|refine zaj ?_|refine zaA ?_|refine zaz ?_|refine zaB ?_)|refine zab rfl rfl True.intro ?_|refine zat rfl rfl rfl ?_|refine zak rfl rfl rfl rfl True.intro ?_|((first |refine zac rfl ?_ ?_|refine zan rfl rfl ?_ ?_|refine zep rfl rfl ?_ ?_)<;>intro<;>try (first |contradiction))|((first |refine zab rfl rfl ?_ ?_|refine zak rfl rfl rfl rfl ?_ ?_|refine zao rfl rfl ?_ ?_|refine zaw rfl ?_ ?_);focus (first |exact le_ rfl|((repeat' refine And.intro ?_ ?_)<;>omega)|((repeat' refine And.intro ?_ ?_)<;>first |rfl|exact Nat.le_refl _)))|refine zaO rfl ?_|with_reducible refine ⟨by kernel_rfl, ?_⟩|refine zau rfl ?_|fail)
    all_goals (refine congrArg D.b ?_; clear c2 c3 hL hX X; first | (simp_all; done) | (simp_all; generalize a.drop = p; generalize b.drop = q; cases p <;> cases q <;> rfl))
  clear c2 c3
  by_cases he : a.lays.getD i ([], []) = b.lays.getD i ([], [])
  · have hn := zdG ([], []) g2 hlt (by omega) he
    have he' : ((a.lays.getD (i : Int).toNat ([], [])).1 == (b.lays.getD (i : Int).toNat ([], [])).1 && (a.lays.getD (i : Int).toNat ([], [])).2 == (b.lays.getD (i : Int).toNat ([], [])).2) = true := by rw [Int.toNat_natCast, he]; simp
    repeat' (first |with_reducible (first |refine zag ?_|refine zaa ?_|refine zaf ?_|refine zad ?_|refine zaj ?_|refine zah ?_|refine zae ?_|refine zap ?_|refine zam ?_|refine zar ?_|refine zaB ?_)|refine zab rfl rfl True.intro ?_|((first |refine zac rfl ?_ ?_|refine zbr rfl ?_ ?_)<;>intro<;>try (first |(exfalso;omega)))|((first |refine zab rfl rfl ?_ ?_);focus (first |omega|exact le_ rfl|((repeat' refine And.intro ?_ ?_)<;>omega)))|with_reducible refine ⟨by kernel_rfl, ?_⟩|refine zau rfl ?_|fail)
    all_goals first
      | exact ⟨i + 1, ⟨by omega, hn⟩, by omega, ⟨rfl, rfl, rfl, trivial⟩, ⟨rfl, rfl, trivial⟩, rfl, by rw [hX]; simp⟩
      | exact Bool.noConfusion (he'.symm.trans (by assumption : _ = false))
  · have hne : a ≠ b := fun h => he (by rw [h])
    have he' : ((a.lays.getD (i : Int).toNat ([], [])).1 == (b.lays.getD (i : Int).toNat ([], [])).1 && (a.lays.getD (i : Int).toNat ([], [])).2 == (b.lays.getD (i : Int).toNat ([], [])).2) = false := by
      rw [Int.toNat_natCast]
      refine Bool.eq_false_iff.2 fun h => he ?_
      simp only [Bool.and_eq_true, beq_iff_eq] at h
      exact Prod.ext h.1 h.2
    repeat' (first |with_reducible (first |refine zag ?_|refine zaa ?_|refine zaf ?_|refine zad ?_|refine zaj ?_|refine zah ?_|refine zae ?_|refine zap ?_|refine zam ?_|refine zar ?_|refine zaB ?_)|refine zab rfl rfl True.intro ?_|((first |refine zac rfl ?_ ?_|refine zbr rfl ?_ ?_)<;>intro<;>try (first |(exfalso;omega)))|((first |refine zab rfl rfl ?_ ?_);focus (first |omega|exact le_ rfl|((repeat' refine And.intro ?_ ?_)<;>omega)))|with_reducible refine ⟨by kernel_rfl, ?_⟩|refine zau rfl ?_|fail)
    all_goals first
      | exact congrArg D.b (decide_eq_false hne).symm
      | exact Bool.noConfusion ((by assumption : _ = true).symm.trans he')

theorem zlk {p : UInt8 → Bool} {s : List UInt8} {i : Nat} (h : i < s.length) : (s.take (i + 1)).all p = ((s.take i).all p && p (s.getD i 0)) := by
  rw [List.take_add_one, List.all_append]
  congr 1
  have : s[i]? = some (s.getD i 0) := by simp [List.getD_eq_getElem?_getD, h]
  rw [this]
  simp
theorem zlr {p : UInt8 → Bool} {s : List UInt8} {i : Nat} (h : i < s.length) (hc : p (s.getD i 0) = false) : s.all p = false := by
  rw [List.all_eq_false]
  refine ⟨s.getD i 0, ?_, ?_⟩
  · rw [List.getD_eq_getElem?_getD, List.getElem?_eq_getElem h, Option.getD_some]
    exact List.getElem_mem h
  · rw [hc]
    exact Bool.false_ne_true
theorem znt (s : List UInt8) (i : Nat) : at' s i = ((s.getD i 0).toNat : Int) := by simp [at']
def nmC (c : UInt8) : Bool := (decide (97 ≤ c.toNat) && decide (c.toNat ≤ 122)) || (decide (48 ≤ c.toNat) && decide (c.toNat ≤ 57)) || decide (c.toNat = 95) || decide (c.toNat = 45)
def nmB (s : List UInt8) : Bool := s.all nmC && decide (0 < s.length ∧ s.length ≤ 64)
theorem zpX {c : UInt8} : nmC c = true ↔ (97 ≤ c.toNat ∧ c.toNat ≤ 122) ∨ (48 ≤ c.toNat ∧ c.toNat ≤ 57) ∨ c.toNat = 95 ∨ c.toNat = 45 := by
  simp only [nmC, Bool.or_eq_true, Bool.and_eq_true, decide_eq_true_eq]
  omega
theorem ztH {c : UInt8} : nmC c = false ↔ ¬ ((97 ≤ c.toNat ∧ c.toNat ≤ 122) ∨ (48 ≤ c.toNat ∧ c.toNat ≤ 57) ∨ c.toNat = 95 ∨ c.toNat = 45) := by
  rw [← zpX, Bool.not_eq_true]
set_option maxRecDepth 100000 in
theorem zog (s : List UInt8) (hs : s.length ≤ 4194304) : Ctr Tryz.prog 10 [.s s] (.b (nmB s)) := by
  refine zaE Tryz.func10 rfl Tryz.ntmps10 Tryz.results10 rfl rfl fun X hL hX => ?_
  repeat' (first |with_reducible (first |refine zag ?_|refine zaa ?_|refine zaf ?_|refine zad ?_|refine zae ?_)|refine zab rfl rfl True.intro ?_|fail)
  refine T.loop hL (fun i : Nat => [(0, .s s), (6, .i .i64 s.length), (7, .i .i64 i)]) (fun _ => []) (fun i => i ≤ s.length ∧ (s.take i).all nmC = true) (fun i => s.length - i) 0 ⟨Nat.zero_le _, by simp⟩
    ⟨⟨rfl, rfl, rfl, trivial⟩, trivial, rfl, fun q hq => by rw [hX] at hq; simp at hq⟩ ?_
  rintro i ⟨hi, hall⟩
  by_cases hil : i < s.length
  · have hst := zlk (p := nmC) hil
    have ha := znt s i
    cases hc : nmC (s.getD i 0) with
    | true =>
      have hcc := zpX.1 hc
      have hna : (97 ≤ at' s i ∧ at' s i ≤ 122) ∨ (48 ≤ at' s i ∧ at' s i ≤ 57) ∨ at' s i = 95 ∨ at' s i = 45 := by omega
      clear hcc ha
      repeat' (first |with_reducible (first |refine zag ?_|refine zaa ?_|refine zaf ?_|refine zad ?_|refine zah ?_|refine zae ?_|refine zap ?_)|refine zab rfl rfl True.intro ?_|refine zat rfl rfl rfl ?_|refine zdO rfl rfl rfl ?_|refine zak rfl rfl rfl rfl True.intro ?_|refine zal rfl ?_|((first |refine zac rfl ?_ ?_|refine zaC rfl ?_ ?_|refine zan rfl rfl ?_ ?_)<;>intro<;>try (first |(exfalso;omega)))|((first |refine zab rfl rfl ?_ ?_);focus (first |omega))|fail)
      all_goals exact ⟨i + 1, ⟨by omega, by rw [hst, hall, hc]; rfl⟩, by omega, ⟨rfl, rfl, congrArg (D.i .i64) (by omega), trivial⟩, trivial, rfl, fun q hq => by rw [hX] at hq; simp at hq⟩
    | false =>
      have hcc := ztH.1 hc
      have hna : ¬ ((97 ≤ at' s i ∧ at' s i ≤ 122) ∨ (48 ≤ at' s i ∧ at' s i ≤ 57) ∨ at' s i = 95 ∨ at' s i = 45) := by omega
      have hb : nmB s = false := by
        unfold nmB
        rw [zlr hil hc]
        rfl
      rw [hb]
      clear hcc ha
      repeat' (first |with_reducible (first |refine zag ?_|refine zaa ?_|refine zaf ?_|refine zad ?_|refine zaj ?_|refine zah ?_|refine zae ?_|refine zam ?_|refine zar ?_)|refine zab rfl rfl True.intro ?_|refine zat rfl rfl rfl ?_|refine zak rfl rfl rfl rfl True.intro ?_|((first |refine zac rfl ?_ ?_|refine zaC rfl ?_ ?_|refine zan rfl rfl ?_ ?_)<;>intro<;>try (first |(exfalso;omega)))|((first |refine zab rfl rfl ?_ ?_);focus (first |omega))|refine zau rfl ?_|fail)
      all_goals rfl
  · have : i = s.length := by omega
    subst this
    rw [List.take_length] at hall
    have hb : nmB s = decide (0 < s.length ∧ s.length ≤ 64) := by
      unfold nmB
      rw [hall]
      rfl
    rw [hb]
    repeat' (first |with_reducible (first |refine zag ?_|refine zaa ?_|refine zaf ?_|refine zad ?_|refine zaj ?_|refine zaA ?_|refine zaz ?_)|refine zab rfl rfl True.intro ?_|refine zat rfl rfl rfl ?_|refine zak rfl rfl rfl rfl True.intro ?_|((first |refine zac rfl ?_ ?_|refine zan rfl rfl ?_ ?_)<;>intro<;>try (first |(exfalso;omega)))|refine zaO rfl ?_|refine zau rfl ?_|fail)
    all_goals
      refine congrArg D.b ?_
      rw [Bool.eq_iff_iff]
      simp only [decide_eq_true_eq, Bool.false_eq_true, false_iff]
      omega
set_option maxRecDepth 100000 in
theorem zos (s : List UInt8) (hs : s.length ≤ 4194304) : Ctr Tryz.prog 11 [.s s] (.b (nmB s)) := by
  refine zaE Tryz.func11 rfl Tryz.ntmps11 Tryz.results11 rfl rfl fun X hL hX => ?_
  repeat' (first |with_reducible (first |refine zag ?_|refine zaa ?_|refine zaf ?_|refine zad ?_|refine zae ?_)|refine zab rfl rfl True.intro ?_|fail)
  refine T.loop hL (fun i : Nat => [(0, .s s), (3, .i .i64 i)]) (fun _ => []) (fun i => i ≤ s.length ∧ (s.take i).all nmC = true) (fun i => s.length - i) 0 ⟨Nat.zero_le _, by simp⟩
    ⟨⟨rfl, rfl, trivial⟩, trivial, rfl, fun q hq => by rw [hX] at hq; simp at hq⟩ ?_
  rintro i ⟨hi, hall⟩
  by_cases hil : i < s.length
  · have hst := zlk (p := nmC) hil
    have ha := znt s i
    cases hc : nmC (s.getD i 0) with
    | true =>
      have hcc := zpX.1 hc
      have hna : (97 ≤ at' s i ∧ at' s i ≤ 122) ∨ (48 ≤ at' s i ∧ at' s i ≤ 57) ∨ at' s i = 95 ∨ at' s i = 45 := by omega
      clear hcc ha
      repeat' (first |with_reducible (first |refine zag ?_|refine zaa ?_|refine zaf ?_|refine zad ?_|refine zah ?_|refine zae ?_|refine zap ?_)|refine zab rfl rfl True.intro ?_|refine zat rfl rfl rfl ?_|refine zdO rfl rfl rfl ?_|refine zak rfl rfl rfl rfl True.intro ?_|refine zal rfl ?_|((first |refine zac rfl ?_ ?_|refine zaC rfl ?_ ?_|refine zan rfl rfl ?_ ?_|refine zaZ rfl rfl ?_ ?_)<;>intro<;>try (first |(exfalso;omega)))|((first |refine zab rfl rfl ?_ ?_);focus (first |omega))|fail)
      all_goals exact ⟨i + 1, ⟨by omega, by rw [hst, hall, hc]; rfl⟩, by omega, ⟨rfl, congrArg (D.i .i64) (by omega), trivial⟩, trivial, rfl, fun q hq => by rw [hX] at hq; simp at hq⟩
    | false =>
      have hcc := ztH.1 hc
      have hna : ¬ ((97 ≤ at' s i ∧ at' s i ≤ 122) ∨ (48 ≤ at' s i ∧ at' s i ≤ 57) ∨ at' s i = 95 ∨ at' s i = 45) := by omega
      have hb : nmB s = false := by
        unfold nmB
        rw [zlr hil hc]
        rfl
      rw [hb]
      clear hcc ha
      repeat' (first |with_reducible (first |refine zag ?_|refine zaa ?_|refine zaf ?_|refine zad ?_|refine zaj ?_|refine zah ?_|refine zae ?_|refine zam ?_|refine zar ?_)|refine zab rfl rfl True.intro ?_|refine zat rfl rfl rfl ?_|refine zak rfl rfl rfl rfl True.intro ?_|((first |refine zac rfl ?_ ?_|refine zaC rfl ?_ ?_|refine zan rfl rfl ?_ ?_|refine zaZ rfl rfl ?_ ?_)<;>intro<;>try (first |(exfalso;omega)))|((first |refine zab rfl rfl ?_ ?_);focus (first |omega))|refine zau rfl ?_|fail)
      all_goals rfl
  · have : i = s.length := by omega
    subst this
    rw [List.take_length] at hall
    have hb : nmB s = decide (0 < s.length ∧ s.length ≤ 64) := by
      unfold nmB
      rw [hall]
      rfl
    rw [hb]
    repeat' (first |with_reducible (first |refine zag ?_|refine zaa ?_|refine zaf ?_|refine zad ?_|refine zaj ?_|refine zaA ?_|refine zaz ?_)|refine zab rfl rfl True.intro ?_|refine zat rfl rfl rfl ?_|refine zak rfl rfl rfl rfl True.intro ?_|((first |refine zac rfl ?_ ?_|refine zan rfl rfl ?_ ?_)<;>intro<;>try (first |(exfalso;omega)))|refine zaO rfl ?_|refine zau rfl ?_|fail)
    all_goals
      refine congrArg D.b ?_
      rw [Bool.eq_iff_iff]
      simp only [decide_eq_true_eq, Bool.false_eq_true, false_iff]
      omega
set_option maxRecDepth 100000 in
set_option maxHeartbeats 16000000 in
theorem zmJ (a b : List CmpR) (ha : smallL a) (hb : smallL b) : Ctr Tryz.prog 9 [.sl 5 a.length (cmpF a), .sl 5 b.length (cmpF b)] (.b (decide (a = b))) := by
  obtain ⟨ha1, ha2⟩ := ha
  obtain ⟨hb1, hb2⟩ := hb
  refine zaE Tryz.func9 rfl Tryz.ntmps9 Tryz.results9 rfl rfl fun X hL hX => ?_
  by_cases hlen : a.length = b.length
  rotate_left
  · have hlen' : ¬ (a.length : Int) = b.length := by omega
    repeat' (first |with_reducible (first |refine zag ?_|refine zaa ?_|refine zaf ?_|refine zad ?_|refine zaj ?_|refine zam ?_)|refine zab rfl rfl True.intro ?_|((first |refine zaC rfl ?_ ?_)<;>intro<;>try (first |contradiction))|refine zau rfl ?_|fail)
    all_goals exact congrArg D.b (decide_eq_false fun h => hlen (by rw [h])).symm
  have hlen' : (a.length : Int) = b.length := by omega
  repeat' (first |with_reducible (first |refine zag ?_|refine zaa ?_|refine zaf ?_|refine zad ?_|refine zah ?_|refine zae ?_)|refine zab rfl rfl True.intro ?_|((first |refine zaC rfl ?_ ?_)<;>intro<;>try (first |contradiction))|fail)
  refine T.loop hL (fun i : Nat => [(0, .sl 5 a.length (cmpF a)), (1, .sl 5 b.length (cmpF b)), (5, .i .i64 i)]) (fun _ => [])
    (fun i => i ≤ a.length ∧ a.take i = b.take i) (fun i => a.length - i) 0 ⟨by omega, by simp⟩
    ⟨⟨rfl, rfl, rfl, trivial⟩, trivial, rfl, by rw [hX]; simp⟩ ?_
  rintro i ⟨h1, h2⟩
  try dsimp only at h1 h2 ⊢
  by_cases hlt : i < a.length
  rotate_left
  · have he : a = b := zem h2 hlen (by omega)
    have hlt' : ¬ (i : Int) < a.length := by omega
    repeat' (first |with_reducible (first |refine zag ?_|refine zaa ?_|refine zaf ?_|refine zad ?_|refine zaj ?_|refine zaA ?_|refine zaz ?_)|refine zab rfl rfl True.intro ?_|((first |refine zac rfl ?_ ?_)<;>intro<;>try (first |contradiction))|refine zaO rfl ?_|refine zau rfl ?_|fail)
    all_goals exact congrArg D.b (decide_eq_true he).symm
  have hlt' : (i : Int) < a.length := by omega
  have hnat : (i : Int).toNat = i := Int.toNat_natCast i
  have hne : ¬ (a.getD (i : Int).toNat c0R) = (b.getD (i : Int).toNat c0R) → a ≠ b := fun h e => h (by rw [e])
  have hnx : (a.getD (i : Int).toNat c0R) = (b.getD (i : Int).toNat c0R) → a.take (i + 1) = b.take (i + 1) := fun h => zdG c0R h2 hlt (by omega) (by rwa [hnat] at h)
  clear h2
  obtain ⟨x1, x2⟩ := ha2 (i : Int).toNat
  obtain ⟨y1, y2⟩ := hb2 (i : Int).toNat
  clear ha2 hb2
  by_cases e1 : (a.getD (i : Int).toNat c0R).id = (b.getD (i : Int).toNat c0R).id
  rotate_left
  · have e1' : ¬ ((a.getD (i : Int).toNat c0R).id == (b.getD (i : Int).toNat c0R).id) = true := fun h => e1 (beq_iff_eq.1 h)
    have hne := hne fun h => e1 (by rw [h])
    repeat' (first |with_reducible (first |refine zag ?_|refine zaa ?_|refine zaf ?_|refine zad ?_|refine zaj ?_|refine zah ?_|refine zae ?_|refine zam ?_|refine zar ?_|refine zaB ?_)|refine zab rfl rfl True.intro ?_|refine zat rfl rfl rfl ?_|refine zav rfl ?_|((first |refine zac rfl ?_ ?_|refine zaD rfl rfl ?_ ?_)<;>intro<;>try (first |contradiction))|((first |refine zab rfl rfl ?_ ?_|refine zao rfl rfl ?_ ?_|refine zaw rfl ?_ ?_);focus (first |omega|exact le_ rfl|((repeat' refine And.intro ?_ ?_)<;>omega)|((repeat' refine And.intro ?_ ?_)<;>first |rfl|exact Nat.le_refl _)))|with_reducible refine ⟨by kernel_rfl, ?_⟩|refine zau rfl ?_|fail)
    all_goals exact congrArg D.b (decide_eq_false hne).symm
  have e1' : ¬ ((a.getD (i : Int).toNat c0R).id == (b.getD (i : Int).toNat c0R).id) = false := fun h => beq_eq_false_iff_ne.1 h e1
  by_cases e2 : (a.getD (i : Int).toNat c0R).buf = (b.getD (i : Int).toNat c0R).buf
  rotate_left
  · have hne := hne fun h => e2 (by rw [h])
    repeat' (first |with_reducible (first |refine zag ?_|refine zaa ?_|refine zaf ?_|refine zad ?_|refine zaj ?_|refine zah ?_|refine zae ?_|refine zam ?_|refine zar ?_|refine zaB ?_)|refine zab rfl rfl True.intro ?_|refine zat rfl rfl rfl ?_|refine zak rfl rfl rfl rfl True.intro ?_|refine zav rfl ?_|((first |refine zac rfl ?_ ?_|refine zaZ rfl rfl ?_ ?_|refine zaD rfl rfl ?_ ?_)<;>intro<;>try (first |contradiction))|((first |refine zab rfl rfl ?_ ?_|refine zak rfl rfl rfl rfl ?_ ?_|refine zao rfl rfl ?_ ?_|refine zaw rfl ?_ ?_);focus (first |omega|exact le_ rfl|((repeat' refine And.intro ?_ ?_)<;>omega)|((repeat' refine And.intro ?_ ?_)<;>first |rfl|exact Nat.le_refl _)))|with_reducible refine ⟨by kernel_rfl, ?_⟩|refine zau rfl ?_|fail)
    all_goals exact congrArg D.b (decide_eq_false hne).symm
  by_cases e3 : (a.getD (i : Int).toNat c0R).mx = (b.getD (i : Int).toNat c0R).mx
  rotate_left
  · have hne := hne fun h => e3 (by rw [h])
    repeat' (first |with_reducible (first |refine zag ?_|refine zaa ?_|refine zaf ?_|refine zad ?_|refine zaj ?_|refine zah ?_|refine zae ?_|refine zam ?_|refine zar ?_|refine zaB ?_)|refine zab rfl rfl True.intro ?_|refine zat rfl rfl rfl ?_|refine zak rfl rfl rfl rfl True.intro ?_|refine zav rfl ?_|((first |refine zac rfl ?_ ?_|refine zaZ rfl rfl ?_ ?_|refine zaD rfl rfl ?_ ?_)<;>intro<;>try (first |contradiction))|((first |refine zab rfl rfl ?_ ?_|refine zak rfl rfl rfl rfl ?_ ?_|refine zao rfl rfl ?_ ?_|refine zaw rfl ?_ ?_);focus (first |omega|exact le_ rfl|((repeat' refine And.intro ?_ ?_)<;>omega)|((repeat' refine And.intro ?_ ?_)<;>first |rfl|exact Nat.le_refl _)))|with_reducible refine ⟨by kernel_rfl, ?_⟩|refine zau rfl ?_|fail)
    all_goals exact congrArg D.b (decide_eq_false hne).symm
  by_cases e4 : (a.getD (i : Int).toNat c0R).lim = (b.getD (i : Int).toNat c0R).lim
  rotate_left
  · have hne := hne fun h => e4 (by rw [h])
    repeat' (first |with_reducible (first |refine zag ?_|refine zaa ?_|refine zaf ?_|refine zad ?_|refine zaj ?_|refine zah ?_|refine zae ?_|refine zam ?_|refine zar ?_|refine zaB ?_)|refine zab rfl rfl True.intro ?_|refine zat rfl rfl rfl ?_|refine zak rfl rfl rfl rfl True.intro ?_|refine zav rfl ?_|((first |refine zac rfl ?_ ?_|refine zaZ rfl rfl ?_ ?_|refine zaD rfl rfl ?_ ?_)<;>intro<;>try (first |contradiction))|((first |refine zab rfl rfl ?_ ?_|refine zak rfl rfl rfl rfl ?_ ?_|refine zao rfl rfl ?_ ?_|refine zaw rfl ?_ ?_);focus (first |omega|exact le_ rfl|((repeat' refine And.intro ?_ ?_)<;>omega)|((repeat' refine And.intro ?_ ?_)<;>first |rfl|exact Nat.le_refl _)))|with_reducible refine ⟨by kernel_rfl, ?_⟩|refine zau rfl ?_|fail)
    all_goals exact congrArg D.b (decide_eq_false hne).symm
  by_cases e5 : (a.getD (i : Int).toNat c0R).srcs.length = (b.getD (i : Int).toNat c0R).srcs.length
  rotate_left
  · have e5' : ¬ ((a.getD (i : Int).toNat c0R).srcs.length : Int) = (b.getD (i : Int).toNat c0R).srcs.length := by omega
    have hne := hne fun h => e5 (by rw [h])
    repeat' (first |with_reducible (first |refine zag ?_|refine zaa ?_|refine zaf ?_|refine zad ?_|refine zaj ?_|refine zah ?_|refine zae ?_|refine zam ?_|refine zar ?_|refine zaB ?_)|refine zab rfl rfl True.intro ?_|refine zak rfl rfl rfl rfl True.intro ?_|((first |refine zac rfl ?_ ?_|refine zaC rfl ?_ ?_|refine zaZ rfl rfl ?_ ?_|refine zaD rfl rfl ?_ ?_)<;>intro<;>try (first |contradiction))|((first |refine zab rfl rfl ?_ ?_|refine zak rfl rfl rfl rfl ?_ ?_|refine zao rfl rfl ?_ ?_|refine zaw rfl ?_ ?_);focus (first |omega|exact le_ rfl|((repeat' refine And.intro ?_ ?_)<;>omega)|((repeat' refine And.intro ?_ ?_)<;>first |rfl|exact Nat.le_refl _)))|with_reducible refine ⟨by kernel_rfl, ?_⟩|refine zau rfl ?_|fail)
    all_goals exact congrArg D.b (decide_eq_false hne).symm
  have e5' : ((a.getD (i : Int).toNat c0R).srcs.length : Int) = (b.getD (i : Int).toNat c0R).srcs.length := by omega
  repeat' (first |with_reducible (first |refine zag ?_|refine zaa ?_|refine zaf ?_|refine zad ?_|refine zah ?_|refine zae ?_|refine zaB ?_)|refine zab rfl rfl True.intro ?_|refine zak rfl rfl rfl rfl True.intro ?_|((first |refine zac rfl ?_ ?_|refine zaC rfl ?_ ?_|refine zaZ rfl rfl ?_ ?_|refine zaD rfl rfl ?_ ?_)<;>intro<;>try (first |contradiction))|((first |refine zab rfl rfl ?_ ?_|refine zak rfl rfl rfl rfl ?_ ?_|refine zao rfl rfl ?_ ?_|refine zaw rfl ?_ ?_);focus (first |omega|exact le_ rfl|((repeat' refine And.intro ?_ ?_)<;>omega)|((repeat' refine And.intro ?_ ?_)<;>first |rfl|exact Nat.le_refl _)))|with_reducible refine ⟨by kernel_rfl, ?_⟩|fail)
  refine T.loop hL (fun k : Nat => [(0, .sl 5 a.length (cmpF a)), (1, .sl 5 b.length (cmpF b)), (5, .i .i64 i), (6, .pv 6 0), (7, .pv 7 0), (8, .i .i64 k)]) (fun _ => [(6, .var (cmpP (a.getD (i : Int).toNat c0R))), (7, .var (cmpP (b.getD (i : Int).toNat c0R)))])
    (fun k => k ≤ (a.getD (i : Int).toNat c0R).srcs.length ∧ (a.getD (i : Int).toNat c0R).srcs.take k = (b.getD (i : Int).toNat c0R).srcs.take k) (fun k => (a.getD (i : Int).toNat c0R).srcs.length - k) 0 ⟨by omega, by simp⟩
    ⟨⟨rfl, rfl, rfl, rfl, rfl, rfl, trivial⟩, ⟨rfl, rfl, trivial⟩, rfl, by rw [hX]; simp⟩ ?_
  clear e1' e5'
  rintro k ⟨g1, g2⟩
  try dsimp only at g1 g2 ⊢
  by_cases klt : k < (a.getD (i : Int).toNat c0R).srcs.length
  rotate_left
  · have klt' : ¬ (k : Int) < (a.getD (i : Int).toNat c0R).srcs.length := by omega
    have he : (a.getD (i : Int).toNat c0R) = (b.getD (i : Int).toNat c0R) := (ziY _ _).1 ⟨e1, zem g2 e5 (by omega), e2, e3, e4⟩
    have hnx := hnx he
    repeat' (first |with_reducible (first |refine zag ?_|refine zaa ?_|refine zaf ?_|refine zad ?_|refine zaA ?_|refine zap ?_|refine zaz ?_)|refine zab rfl rfl True.intro ?_|((first |refine zac rfl ?_ ?_)<;>intro<;>try (first |contradiction))|((first |refine zab rfl rfl ?_ ?_);focus (first |omega|exact le_ rfl|((repeat' refine And.intro ?_ ?_)<;>omega)))|refine zaO rfl ?_|fail)
    all_goals exact ⟨i + 1, ⟨by omega, hnx⟩, by omega, ⟨rfl, rfl, rfl, trivial⟩, trivial, rfl, by rw [hX]; simp⟩
  have klt' : (k : Int) < (a.getD (i : Int).toNat c0R).srcs.length := by omega
  have knat : (k : Int).toNat = k := Int.toNat_natCast k
  have c := zml ((a.getD (i : Int).toNat c0R).srcs.getD (k : Int).toNat s0R) ((b.getD (i : Int).toNat c0R).srcs.getD (k : Int).toNat s0R) (x2 _) (y2 _)
  by_cases he : (a.getD (i : Int).toNat c0R).srcs.getD (k : Int).toNat s0R = (b.getD (i : Int).toNat c0R).srcs.getD (k : Int).toNat s0R
  · rw [decide_eq_true he] at c
    have hn := zdG s0R g2 klt (by omega) (by rwa [knat] at he)
    clear hne hnx
    repeat' (first |refine zai (f := 20) rfl rfl Tryz.call20 rfl c ?_|with_reducible (first |refine zag ?_|refine zaa ?_|refine zaf ?_|refine zad ?_|refine zah ?_|refine zae ?_|refine zap ?_|refine zaB ?_)|refine zab rfl rfl True.intro ?_|refine zal rfl ?_|((first |refine zac rfl ?_ ?_)<;>intro<;>try (first |contradiction))|((first |refine zab rfl rfl ?_ ?_);focus (first |omega|exact le_ rfl|((repeat' refine And.intro ?_ ?_)<;>omega)))|with_reducible refine ⟨by kernel_rfl, ?_⟩|fail)
    all_goals exact ⟨k + 1, ⟨by omega, hn⟩, by omega, ⟨rfl, rfl, rfl, rfl, rfl, rfl, trivial⟩, ⟨rfl, rfl, trivial⟩, rfl, by rw [hX]; simp⟩
  · rw [decide_eq_false he] at c
    have hne := hne fun h => he (by rw [h])
    clear hnx
    repeat' (first |refine zai (f := 20) rfl rfl Tryz.call20 rfl c ?_|with_reducible (first |refine zag ?_|refine zaa ?_|refine zaf ?_|refine zad ?_|refine zaj ?_|refine zah ?_|refine zae ?_|refine zam ?_|refine zar ?_|refine zaB ?_)|refine zab rfl rfl True.intro ?_|refine zav rfl ?_|((first |refine zac rfl ?_ ?_)<;>intro<;>try (first |contradiction))|((first |refine zab rfl rfl ?_ ?_);focus (first |omega|exact le_ rfl|((repeat' refine And.intro ?_ ?_)<;>omega)))|with_reducible refine ⟨by kernel_rfl, ?_⟩|refine zau rfl ?_|fail)
    all_goals exact congrArg D.b (decide_eq_false hne).symm
end Go.Proofs.YtcajofhafpkbdaaGreatDoor.Flow
