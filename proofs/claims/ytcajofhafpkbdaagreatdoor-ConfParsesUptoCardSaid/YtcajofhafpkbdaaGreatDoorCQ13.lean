/- The texts G9, G10, G11, FlowX, FlowY, one behind the other. -/
import Derived.Test.YtcajofhafpkbdaaGreatDoorCQ12
import Derived.MapKept
namespace Go.Proofs.YtcajofhafpkbdaaGreatDoor.Flow
open Go
def layOk (l : List Fld) (i : Nat) : Prop := validL (l.getD i ([], [])).1 = true ∧ validL (l.getD i ([], [])).2 = true ∧ ∀ k, k < i → ¬ (l.getD k ([], [])).1 = (l.getD i ([], [])).1
instance (l : List Fld) (i : Nat) : Decidable (layOk l i) := by unfold layOk; infer_instance
def okSrc (s : SrcR) : Prop := ¬ s.arch = [] ∧ [s.arch, s.csv, s.key, s.attr].all validL = true ∧ s.only.all validL = true ∧ s.notl.all validL = true ∧ (∀ i, i < s.lays.length → layOk s.lays i) ∧ (¬ s.csv = [] ∨ noneJ s)
instance (s : SrcR) : Decidable (okSrc s) := by unfold okSrc; infer_instance
theorem zhT (a b c d : Txt) : Weak (.sl 1 4 (chunk 1 [.s a, .s b, .s c, .s d])) (.sl 1 [a, b, c, d].length (txF [a, b, c, d])) :=
  Weak.sl_ofG rfl (fun i hi => match i, hi with
    | 0, _ => rfl
    | 1, _ => rfl
    | 2, _ => rfl
    | 3, _ => rfl) fun _ _ => rfl
theorem zkx (a b : Txt) : Weak (.sl 1 2 (fun j => [[D.s a, D.s b].getD j .any])) (.sl 1 [a, b].length (txF [a, b])) :=
  Weak.sl_ofG rfl (fun i hi => match i, hi with
    | 0, _ => rfl
    | 1, _ => rfl) fun _ _ => rfl
theorem at4 {a b c d : Txt} {n : Nat} (ha : a.length ≤ n) (hb : b.length ≤ n) (hc : c.length ≤ n) (hd : d.length ≤ n) (i : Nat) : ([a, b, c, d].getD i []).length ≤ n := match i with
  | 0 => ha
  | 1 => hb
  | 2 => hc
  | 3 => hd
  | _ + 4 => Nat.zero_le _
theorem atTwo {a b : Txt} {n : Nat} (ha : a.length ≤ n) (hb : b.length ≤ n) (i : Nat) : ([a, b].getD i []).length ≤ n := match i with
  | 0 => ha
  | 1 => hb
  | _ + 2 => Nat.zero_le _
set_option maxRecDepth 100000 in
set_option maxHeartbeats 16000000 in
theorem zjU (s : SrcR) (hs : smallS s) (hb : bigS s) : Ctr Tryz.prog 39 [.ag (srcP s)] (.b (decide (okSrc s))) := by
  obtain ⟨s1, s2, s3⟩ := hs
  obtain ⟨b1, b2, b3, b4, b5, b6, b7⟩ := hb
  unfold bigT at b1 b2 b3 b4 b5 b6 b7
  have c1 := (zcT [s.arch, s.csv, s.key, s.attr] (by simp) (at4 (by omega) (by omega) (by omega) (by omega))).weak1 (zhT _ _ _ _)
  have c2 := zcT s.only s2 (fun i => by have := b5 i; omega)
  have c3 := zcT s.notl s3 (fun i => by have := b6 i; omega)
  refine zay Tryz.func39 rfl Tryz.ntmps39 Tryz.results39 rfl rfl fun X hL hX => ?_
  by_cases h0 : ¬ s.arch = [] ∧ [s.arch, s.csv, s.key, s.attr].all validL = true ∧ s.only.all validL = true ∧ s.notl.all validL = true
  rotate_left
  · have hne : ¬ okSrc s := fun h => h0 ⟨h.1, h.2.1, h.2.2.1, h.2.2.2.1⟩
    rw [decide_eq_false hne]
    repeat' (first |refine zaM (f := 73) rfl rfl rfl rfl Tryz.call73 rfl c1 ?_|refine zaM (f := 73) rfl rfl rfl rfl Tryz.call73 rfl c2 ?_|refine zaM (f := 73) rfl rfl rfl rfl Tryz.call73 rfl c3 ?_|with_reducible (first |refine zag ?_|refine zaa ?_|refine zaf ?_|refine zad ?_|refine zaj ?_|refine zai ?_|refine zae ?_|refine zal ?_)|refine zab rfl rfl True.intro ?_|refine zau rfl rfl rfl ?_|refine zam rfl rfl rfl rfl True.intro ?_|refine zas rfl ?_|((first |refine zbw rfl ?_ ?_|refine zee rfl rfl ?_ ?_|refine zaF rfl rfl ?_ ?_)<;>intro)|((first |refine zab rfl rfl ?_ ?_|refine zam rfl rfl rfl rfl ?_ ?_|refine zao rfl rfl ?_ ?_|refine zqw rfl rfl rfl rfl ?_ ?_);focus (first |exact le_ rfl|((repeat' refine And.intro ?_ ?_)<;>omega)|((repeat' refine And.intro ?_ ?_)<;>first |omega|rfl)))|refine zaw rfl ?_|fail)
    all_goals first
      | rfl
      | exact absurd ⟨by assumption, by assumption, by assumption, by assumption⟩ h0
  obtain ⟨p1, p2, p3, p4⟩ := h0
  rw [p2] at c1
  rw [p3] at c2
  rw [p4] at c3
  have p1' : ¬ s.arch = (⟨#[]⟩ : ByteArray).data.toList := p1
  repeat' (first |refine zaM (f := 73) rfl rfl rfl rfl Tryz.call73 rfl c1 ?_|refine zaM (f := 73) rfl rfl rfl rfl Tryz.call73 rfl c2 ?_|refine zaM (f := 73) rfl rfl rfl rfl Tryz.call73 rfl c3 ?_|with_reducible (first |refine zag ?_|refine zaa ?_|refine zaf ?_|refine zad ?_|refine zai ?_|refine zae ?_)|refine zab rfl rfl True.intro ?_|refine zam rfl rfl rfl rfl True.intro ?_|refine zak rfl ?_|((first |refine zee rfl rfl ?_ ?_|refine zaF rfl rfl ?_ ?_)<;>intro<;>try (first |contradiction))|((first |refine zab rfl rfl ?_ ?_|refine zam rfl rfl rfl rfl ?_ ?_|refine zao rfl rfl ?_ ?_|refine zqw rfl rfl rfl rfl ?_ ?_);focus (first |exact le_ rfl|((repeat' refine And.intro ?_ ?_)<;>omega)|((repeat' refine And.intro ?_ ?_)<;>first |omega|rfl)))|fail)
  clear c1 c2 c3
  refine T.loop hL (fun i : Nat => [(1, .pv 1 0), (3, .i .i64 i)]) (fun _ => [(1, .var (srcP s))])
    (fun i => i ≤ s.lays.length ∧ ∀ j, j < i → layOk s.lays j) (fun i => s.lays.length - i) 0 ⟨Nat.zero_le _, fun j h => absurd h (Nat.not_lt_zero _)⟩
    ⟨⟨rfl, rfl, trivial⟩, ⟨rfl, trivial⟩, rfl, by rw [hX]; simp⟩ ?_
  rintro i ⟨g1, g2⟩
  try dsimp only at g1 g2 ⊢
  have hnat : (i : Int).toNat = i := Int.toNat_natCast i
  by_cases hil : i < s.lays.length
  rotate_left
  · have hil' : ¬ (i : Int) < s.lays.length := by omega
    have hz : noneJ s ↔ ((s.key.length : Int) + s.attr.length + s.only.length + s.notl.length = 0 ∧ s.texts = false ∧ s.drop = false) := by
      unfold noneJ
      rw [← List.length_eq_zero_iff, ← List.length_eq_zero_iff (l := s.attr)]
      constructor
      · rintro ⟨q1, q2, q3, q4, q5⟩
        exact ⟨by omega, q4, q5⟩
      · rintro ⟨q1, q4, q5⟩
        exact ⟨by omega, by omega, by omega, q4, q5⟩
    have hd : decide (okSrc s) = decide (¬ s.csv = [] ∨ ((s.key.length : Int) + s.attr.length + s.only.length + s.notl.length = 0 ∧ s.texts = false ∧ s.drop = false)) :=
      decide_eq_decide.2 ⟨fun h => h.2.2.2.2.2.imp id hz.1, fun h => ⟨p1, p2, p3, p4, fun j hj => g2 j (by omega), h.imp id hz.2⟩⟩
    rw [hd]
    clear hd hz g2
    repeat' (first |with_reducible (first |refine zag ?_|refine zaa ?_|refine zaf ?_|refine zad ?_|refine zaj ?_|refine zaz ?_|refine zaA ?_)|refine zab rfl rfl True.intro ?_|refine zau rfl rfl rfl ?_|refine zce rfl rfl rfl ?_|refine zam rfl rfl rfl rfl True.intro ?_|((first |refine zac rfl ?_ ?_|refine zan rfl rfl ?_ ?_|refine zaF rfl rfl ?_ ?_)<;>intro<;>try (first |contradiction))|((first |refine zab rfl rfl ?_ ?_|refine zam rfl rfl rfl rfl ?_ ?_|refine zao rfl rfl ?_ ?_|refine zar rfl ?_ ?_);focus (first |omega|exact le_ rfl|((repeat' refine And.intro ?_ ?_)<;>omega)|((repeat' refine And.intro ?_ ?_)<;>first |rfl|exact Nat.le_refl _)))|refine zaJ rfl ?_|refine zaw rfl ?_|fail)
    all_goals (refine congrArg D.b ?_; clear hL hX X p1 p1' p2 p3 p4 b1 b2 b3 b4 b5 b6 b7 s1 s2 s3; first | (simp_all; done) | (simp_all; generalize s.drop = q; cases q <;> rfl))
  have hil' : (i : Int) < s.lays.length := by omega
  have hbi := b7 (i : Int).toNat
  have c4 := (zcT [(s.lays.getD (i : Int).toNat ([], [])).1, (s.lays.getD (i : Int).toNat ([], [])).2] (by simp) (atTwo (by omega) (by omega))).weak1 (zkx _ _)
  by_cases hv : validL (s.lays.getD (i : Int).toNat ([], [])).1 = true ∧ validL (s.lays.getD (i : Int).toNat ([], [])).2 = true
  rotate_left
  · have e : [(s.lays.getD (i : Int).toNat ([], [])).1, (s.lays.getD (i : Int).toNat ([], [])).2].all validL = false := by
      cases q1 : validL (s.lays.getD (i : Int).toNat ([], [])).1 <;> cases q2 : validL (s.lays.getD (i : Int).toNat ([], [])).2 <;> simp_all
    rw [e] at c4
    have hne : ¬ okSrc s := fun h => hv (by
      have := h.2.2.2.2.1 i hil
      rw [hnat]
      exact ⟨this.1, this.2.1⟩)
    rw [decide_eq_false hne]
    clear e hne hv
    repeat' (first |refine zoK rfl rfl (le_ rfl) rfl ?_|refine zah (f := 73) rfl rfl Tryz.call73 rfl c4 ?_|with_reducible (first |refine zag ?_|refine zaa ?_|refine zaf ?_|refine zad ?_|refine zaj ?_|refine zai ?_|refine zae ?_|refine zal ?_|refine zap ?_)|refine zab rfl rfl True.intro ?_|refine zas rfl ?_|((first |refine zac rfl ?_ ?_)<;>intro<;>try (first |contradiction))|((first |refine zab rfl rfl ?_ ?_);focus (first |omega|exact le_ rfl|((repeat' refine And.intro ?_ ?_)<;>omega)))|refine zaw rfl ?_|fail)
    all_goals rfl
  have e : [(s.lays.getD (i : Int).toNat ([], [])).1, (s.lays.getD (i : Int).toNat ([], [])).2].all validL = true := by rw [List.all_cons, List.all_cons, hv.1, hv.2]; rfl
  rw [e] at c4
  clear e
  repeat' (first |refine zoK rfl rfl (le_ rfl) rfl ?_|refine zah (f := 73) rfl rfl Tryz.call73 rfl c4 ?_|with_reducible (first |refine zag ?_|refine zaa ?_|refine zaf ?_|refine zad ?_|refine zai ?_|refine zae ?_)|refine zab rfl rfl True.intro ?_|refine zak rfl ?_|((first |refine zac rfl ?_ ?_)<;>intro<;>try (first |contradiction))|((first |refine zab rfl rfl ?_ ?_);focus (first |omega|exact le_ rfl|((repeat' refine And.intro ?_ ?_)<;>omega)))|fail)
  clear c4
  refine T.loop hL (fun k : Nat => [(1, .pv 1 0), (3, .i .i64 i), (4, .i .i64 k)]) (fun _ => [(1, .var (srcP s))])
    (fun k => k ≤ i ∧ ∀ j, j < k → ¬ (s.lays.getD j ([], [])).1 = (s.lays.getD i ([], [])).1) (fun k => i - k) 0 ⟨Nat.zero_le _, fun j h => absurd h (Nat.not_lt_zero _)⟩
    ⟨⟨rfl, rfl, rfl, trivial⟩, ⟨rfl, trivial⟩, rfl, by rw [hX]; simp⟩ ?_
  rintro k ⟨d1, d2⟩
  try dsimp only at d1 d2 ⊢
  have knat : (k : Int).toNat = k := Int.toNat_natCast k
  by_cases hki : k < i
  rotate_left
  · have hki' : ¬ (k : Int) < i := by omega
    have g3 : ∀ j, j < i + 1 → layOk s.lays j := fun j hj => by
      by_cases e : j = i
      · rw [e]
        rw [hnat] at hv
        exact ⟨hv.1, hv.2, fun q hq => d2 q (by omega)⟩
      · exact g2 j (by omega)
    clear g2 d2
    repeat' (first |with_reducible (first |refine zag ?_|refine zaa ?_|refine zaf ?_|refine zad ?_|refine zaz ?_|refine zaq ?_|refine zaA ?_)|refine zab rfl rfl True.intro ?_|((first |refine zac rfl ?_ ?_)<;>intro<;>try (first |contradiction))|((first |refine zab rfl rfl ?_ ?_);focus (first |omega|((repeat' refine And.intro ?_ ?_)<;>omega)))|refine zaJ rfl ?_|fail)
    all_goals exact ⟨i + 1, ⟨by omega, g3⟩, by omega, ⟨rfl, rfl, trivial⟩, ⟨rfl, trivial⟩, rfl, by rw [hX]; simp⟩
  have hki' : (k : Int) < i := by omega
  clear g2
  by_cases he : (s.lays.getD k ([], [])).1 = (s.lays.getD i ([], [])).1
  · have hne : ¬ okSrc s := fun h => (h.2.2.2.2.1 i hil).2.2 k hki he
    rw [decide_eq_false hne]
    have he' : ¬ ((s.lays.getD (k : Int).toNat ([], [])).1 == (s.lays.getD (i : Int).toNat ([], [])).1) = false := by
      rw [hnat, knat]
      exact fun h => beq_eq_false_iff_ne.1 h he
    clear d2 hne
    repeat' (first |with_reducible (first |refine zag ?_|refine zaa ?_|refine zaf ?_|refine zad ?_|refine zaj ?_|refine zai ?_|refine zae ?_|refine zal ?_|refine zap ?_|refine zaD ?_)|refine zab rfl rfl True.intro ?_|((first |refine zac rfl ?_ ?_|refine zbx rfl ?_ ?_)<;>intro<;>try (first |contradiction))|((first |refine zab rfl rfl ?_ ?_);focus (first |omega|exact le_ rfl|((repeat' refine And.intro ?_ ?_)<;>omega)))|with_reducible refine ⟨by kernel_rfl, ?_⟩|refine zaw rfl ?_|fail)
    all_goals rfl
  · have he' : ¬ ((s.lays.getD (k : Int).toNat ([], [])).1 == (s.lays.getD (i : Int).toNat ([], [])).1) = true := by
      rw [hnat, knat]
      exact fun h => he (beq_iff_eq.1 h)
    have d3 : ∀ j, j < k + 1 → ¬ (s.lays.getD j ([], [])).1 = (s.lays.getD i ([], [])).1 := fun j hj => by
      by_cases e : j = k
      · rw [e]; exact he
      · exact d2 j (by omega)
    clear d2
    repeat' (first |with_reducible (first |refine zag ?_|refine zaa ?_|refine zaf ?_|refine zad ?_|refine zai ?_|refine zae ?_|refine zaq ?_|refine zaD ?_)|refine zab rfl rfl True.intro ?_|((first |refine zac rfl ?_ ?_|refine zbx rfl ?_ ?_)<;>intro<;>try (first |contradiction))|((first |refine zab rfl rfl ?_ ?_);focus (first |omega|exact le_ rfl|((repeat' refine And.intro ?_ ?_)<;>omega)))|with_reducible refine ⟨by kernel_rfl, ?_⟩|fail)
    all_goals exact ⟨k + 1, ⟨by omega, d3⟩, by omega, ⟨rfl, rfl, rfl, trivial⟩, ⟨rfl, trivial⟩, rfl, by rw [hX]; simp⟩

def hdOk (c : CmpR) : Prop := nmB c.id = true ∧ 1 ≤ (c.srcs.length : Int) ∧ (c.srcs.length : Int) ≤ 16 ∧ 0 ≤ c.buf ∧ c.buf ≤ 64 ∧ 0 ≤ c.mx ∧ c.mx ≤ 30 ∧ 0 ≤ c.lim ∧ c.lim ≤ 1048576
instance (c : CmpR) : Decidable (hdOk c) := by unfold hdOk; infer_instance
def cmpOk (l : List CmpR) (i : Nat) : Prop := hdOk (l.getD i c0R) ∧ (∀ k, k < i → ¬ (l.getD k c0R).id = (l.getD i c0R).id) ∧ ∀ k, k < (l.getD i c0R).srcs.length → okSrc ((l.getD i c0R).srcs.getD k s0R)
instance (l : List CmpR) (i : Nat) : Decidable (cmpOk l i) := by unfold cmpOk; infer_instance
def okL (l : List CmpR) : Prop := ∀ i, i < l.length → cmpOk l i
instance (l : List CmpR) : Decidable (okL l) := by unfold okL; infer_instance
set_option maxRecDepth 100000 in
set_option maxHeartbeats 16000000 in
theorem zmk (l : List CmpR) (hl : smallL l) (hb : ∀ i, bigC (l.getD i c0R)) : Ctr Tryz.prog 18 [.sl 5 l.length (cmpF l)] (.b (decide (okL l))) := by
  obtain ⟨hl1, hl2⟩ := hl
  refine zay Tryz.func18 rfl Tryz.ntmps18 Tryz.results18 rfl rfl fun X hL hX => ?_
  repeat' (first |with_reducible (first |refine zag ?_|refine zaa ?_|refine zaf ?_|refine zad ?_|refine zae ?_)|refine zab rfl rfl True.intro ?_|fail)
  refine T.loop hL (fun i : Nat => [(0, .sl 5 l.length (cmpF l)), (3, .i .i64 i)]) (fun _ => [])
    (fun i => i ≤ l.length ∧ ∀ j, j < i → cmpOk l j) (fun i => l.length - i) 0 ⟨Nat.zero_le _, fun j h => absurd h (Nat.not_lt_zero _)⟩
    ⟨⟨rfl, rfl, trivial⟩, trivial, rfl, by rw [hX]; simp⟩ ?_
  rintro i ⟨g1, g2⟩
  try dsimp only at g1 g2 ⊢
  have hnat : (i : Int).toNat = i := Int.toNat_natCast i
  by_cases hil : i < l.length
  rotate_left
  · have hil' : ¬ (i : Int) < l.length := by omega
    rw [decide_eq_true (show okL l from fun j hj => g2 j (by omega))]
    repeat' (first |with_reducible (first |refine zag ?_|refine zaa ?_|refine zaf ?_|refine zad ?_|refine zaj ?_|refine zaz ?_|refine zaA ?_)|refine zab rfl rfl True.intro ?_|((first |refine zac rfl ?_ ?_)<;>intro<;>try (first |contradiction))|refine zaJ rfl ?_|refine zaw rfl ?_|fail)
    all_goals rfl
  have hil' : (i : Int) < l.length := by omega
  obtain ⟨hb1, hb2⟩ := hb (i : Int).toNat
  obtain ⟨hc1, hc2⟩ := hl2 (i : Int).toNat
  unfold bigT at hb1
  have hno : ¬ cmpOk l (i : Int).toNat → ¬ okL l := fun h q => h (by rw [hnat]; exact q i hil)
  have hnx : cmpOk l (i : Int).toNat → ∀ j, j < i + 1 → cmpOk l j := fun h j hj => by
    by_cases e : j = i
    · rw [e]
      rwa [hnat] at h
    · exact g2 j (by omega)
  clear hb hl2 g2
  have c1 := zox (l.getD (i : Int).toNat c0R).id (by omega)
  by_cases hd : hdOk (l.getD (i : Int).toNat c0R)
  rotate_left
  · rw [decide_eq_false (hno fun h => hd h.1)]
    clear hno hnx
    repeat' (first |refine zah (f := 11) rfl rfl Tryz.call11 rfl c1 ?_|with_reducible (first |refine zag ?_|refine zaa ?_|refine zaf ?_|refine zad ?_|refine zaj ?_|refine zai ?_|refine zae ?_|refine zal ?_|refine zap ?_)|refine zab rfl rfl True.intro ?_|refine zau rfl rfl rfl ?_|refine zam rfl rfl rfl rfl True.intro ?_|refine zas rfl ?_|((first |refine zac rfl ?_ ?_|refine zan rfl rfl ?_ ?_|refine zaF rfl rfl ?_ ?_)<;>intro<;>try (first |contradiction))|((first |refine zab rfl rfl ?_ ?_|refine zam rfl rfl rfl rfl ?_ ?_|refine zao rfl rfl ?_ ?_|refine zar rfl ?_ ?_);focus (first |omega|exact le_ rfl|((repeat' refine And.intro ?_ ?_)<;>omega)|((repeat' refine And.intro ?_ ?_)<;>first |rfl|exact Nat.le_refl _)))|refine zaw rfl ?_|fail)
    all_goals first
      | rfl
      | exact absurd ⟨by assumption, by omega, by omega, by omega, by omega, by omega, by omega, by omega, by omega⟩ hd
      | trace_state
  obtain ⟨q1, q2, q3, q4, q5, q6, q7, q8, q9⟩ := id hd
  rw [q1] at c1
  repeat' (first |refine zah (f := 11) rfl rfl Tryz.call11 rfl c1 ?_|with_reducible (first |refine zag ?_|refine zaa ?_|refine zaf ?_|refine zad ?_|refine zai ?_|refine zae ?_)|refine zab rfl rfl True.intro ?_|refine zam rfl rfl rfl rfl True.intro ?_|((first |refine zac rfl ?_ ?_|refine zan rfl rfl ?_ ?_|refine zaF rfl rfl ?_ ?_)<;>intro<;>try (first |contradiction|(exfalso;omega)))|((first |refine zab rfl rfl ?_ ?_|refine zam rfl rfl rfl rfl ?_ ?_|refine zao rfl rfl ?_ ?_|refine zar rfl ?_ ?_);focus (first |omega|exact le_ rfl|((repeat' refine And.intro ?_ ?_)<;>omega)|((repeat' refine And.intro ?_ ?_)<;>first |rfl|exact Nat.le_refl _)))|fail)
  clear c1
  refine T.loop hL (fun k : Nat => [(0, .sl 5 l.length (cmpF l)), (3, .i .i64 i), (4, .pv 4 0), (5, .i .i64 k)]) (fun _ => [(4, .var (cmpP (l.getD (i : Int).toNat c0R)))])
    (fun k => k ≤ i ∧ ∀ j, j < k → ¬ (l.getD j c0R).id = (l.getD (i : Int).toNat c0R).id) (fun k => i - k) 0 ⟨Nat.zero_le _, fun j h => absurd h (Nat.not_lt_zero _)⟩
    ⟨⟨rfl, rfl, rfl, rfl, trivial⟩, ⟨rfl, trivial⟩, rfl, by rw [hX]; simp⟩ ?_
  rintro k ⟨d1, d2⟩
  try dsimp only at d1 d2 ⊢
  have knat : (k : Int).toNat = k := Int.toNat_natCast k
  by_cases hki : k < i
  · have hki' : (k : Int) < i := by omega
    by_cases he : (l.getD k c0R).id = (l.getD (i : Int).toNat c0R).id
    · rw [decide_eq_false (hno fun h => h.2.1 k (by omega) he)]
      have he' : ¬ ((l.getD (k : Int).toNat c0R).id == (l.getD (i : Int).toNat c0R).id) = false := by
        rw [knat]
        exact fun h => beq_eq_false_iff_ne.1 h he
      clear d2 hno hnx
      repeat' (first |with_reducible (first |refine zag ?_|refine zaa ?_|refine zaf ?_|refine zad ?_|refine zaj ?_|refine zai ?_|refine zae ?_|refine zal ?_|refine zap ?_|refine zaD ?_)|refine zab rfl rfl True.intro ?_|((first |refine zac rfl ?_ ?_|refine zbx rfl ?_ ?_)<;>intro<;>try (first |contradiction))|((first |refine zab rfl rfl ?_ ?_);focus (first |omega|exact le_ rfl|((repeat' refine And.intro ?_ ?_)<;>omega)))|with_reducible refine ⟨by kernel_rfl, ?_⟩|refine zaw rfl ?_|fail)
      all_goals rfl
    · have he' : ¬ ((l.getD (k : Int).toNat c0R).id == (l.getD (i : Int).toNat c0R).id) = true := by
        rw [knat]
        exact fun h => he (beq_iff_eq.1 h)
      have d3 : ∀ j, j < k + 1 → ¬ (l.getD j c0R).id = (l.getD (i : Int).toNat c0R).id := fun j hj => by
        by_cases e : j = k
        · rw [e]; exact he
        · exact d2 j (by omega)
      clear d2 hno hnx
      repeat' (first |with_reducible (first |refine zag ?_|refine zaa ?_|refine zaf ?_|refine zad ?_|refine zai ?_|refine zae ?_|refine zaq ?_|refine zaD ?_)|refine zab rfl rfl True.intro ?_|((first |refine zac rfl ?_ ?_|refine zbx rfl ?_ ?_)<;>intro<;>try (first |contradiction))|((first |refine zab rfl rfl ?_ ?_);focus (first |omega|exact le_ rfl|((repeat' refine And.intro ?_ ?_)<;>omega)))|with_reducible refine ⟨by kernel_rfl, ?_⟩|fail)
      all_goals exact ⟨k + 1, ⟨by omega, d3⟩, by omega, ⟨rfl, rfl, rfl, rfl, trivial⟩, ⟨rfl, trivial⟩, rfl, by rw [hX]; simp⟩
  have hki' : ¬ (k : Int) < i := by omega
  have hid : ∀ j, j < (i : Int).toNat → ¬ (l.getD j c0R).id = (l.getD (i : Int).toNat c0R).id := fun j hj => d2 j (by omega)
  clear d2
  repeat' (first |with_reducible (first |refine zag ?_|refine zaa ?_|refine zaf ?_|refine zad ?_|refine zaz ?_|refine zae ?_|refine zaA ?_)|refine zab rfl rfl True.intro ?_|((first |refine zac rfl ?_ ?_)<;>intro<;>try (first |contradiction))|refine zaJ rfl ?_|fail)
  refine T.loop hL (fun m : Nat => [(0, .sl 5 l.length (cmpF l)), (3, .i .i64 i), (4, .pv 4 0), (6, .i .i64 m)]) (fun _ => [(4, .var (cmpP (l.getD (i : Int).toNat c0R)))])
    (fun m => m ≤ (l.getD (i : Int).toNat c0R).srcs.length ∧ ∀ j, j < m → okSrc ((l.getD (i : Int).toNat c0R).srcs.getD j s0R)) (fun m => (l.getD (i : Int).toNat c0R).srcs.length - m) 0 ⟨Nat.zero_le _, fun j h => absurd h (Nat.not_lt_zero _)⟩
    ⟨⟨rfl, rfl, rfl, rfl, trivial⟩, ⟨rfl, trivial⟩, rfl, by rw [hX]; simp⟩ ?_
  rintro m ⟨u1, u2⟩
  try dsimp only at u1 u2 ⊢
  have mnat : (m : Int).toNat = m := Int.toNat_natCast m
  by_cases hml : m < (l.getD (i : Int).toNat c0R).srcs.length
  rotate_left
  · have hml' : ¬ (m : Int) < (l.getD (i : Int).toNat c0R).srcs.length := by omega
    have g3 := hnx ⟨hd, hid, fun j hj => u2 j (by omega)⟩
    clear u2 hno hnx hid
    repeat' (first |with_reducible (first |refine zag ?_|refine zaa ?_|refine zaf ?_|refine zad ?_|refine zaz ?_|refine zaq ?_|refine zaA ?_)|refine zab rfl rfl True.intro ?_|((first |refine zac rfl ?_ ?_)<;>intro<;>try (first |contradiction))|((first |refine zab rfl rfl ?_ ?_);focus (first |omega|exact le_ rfl|((repeat' refine And.intro ?_ ?_)<;>omega)))|refine zaJ rfl ?_|fail)
    all_goals exact ⟨i + 1, ⟨by omega, g3⟩, by omega, ⟨rfl, rfl, trivial⟩, trivial, rfl, by rw [hX]; simp⟩
  have hml' : (m : Int) < (l.getD (i : Int).toNat c0R).srcs.length := by omega
  have c := zjU ((l.getD (i : Int).toNat c0R).srcs.getD (m : Int).toNat s0R) (hc2 _) (hb2 _)
  by_cases hk : okSrc ((l.getD (i : Int).toNat c0R).srcs.getD (m : Int).toNat s0R)
  · rw [decide_eq_true hk] at c
    have u3 : ∀ j, j < m + 1 → okSrc ((l.getD (i : Int).toNat c0R).srcs.getD j s0R) := fun j hj => by
      by_cases e : j = m
      · rw [e]
        rwa [mnat] at hk
      · exact u2 j (by omega)
    clear u2 hno hnx hid
    repeat' (first |refine zah (f := 39) rfl rfl Tryz.call39 rfl c ?_|with_reducible (first |refine zag ?_|refine zaa ?_|refine zaf ?_|refine zad ?_|refine zai ?_|refine zae ?_|refine zaq ?_)|refine zab rfl rfl True.intro ?_|refine zak rfl ?_|((first |refine zac rfl ?_ ?_)<;>intro<;>try (first |contradiction))|((first |refine zab rfl rfl ?_ ?_);focus (first |omega|exact le_ rfl|((repeat' refine And.intro ?_ ?_)<;>omega)))|fail)
    all_goals exact ⟨m + 1, ⟨by omega, u3⟩, by omega, ⟨rfl, rfl, rfl, rfl, trivial⟩, ⟨rfl, trivial⟩, rfl, by rw [hX]; simp⟩
  · rw [decide_eq_false hk] at c
    rw [decide_eq_false (hno fun h => hk (by rw [mnat]; exact h.2.2 m hml))]
    clear u2 hno hnx hid
    repeat' (first |refine zah (f := 39) rfl rfl Tryz.call39 rfl c ?_|with_reducible (first |refine zag ?_|refine zaa ?_|refine zaf ?_|refine zad ?_|refine zaj ?_|refine zai ?_|refine zae ?_|refine zal ?_|refine zap ?_)|refine zab rfl rfl True.intro ?_|refine zas rfl ?_|((first |refine zac rfl ?_ ?_)<;>intro<;>try (first |contradiction))|((first |refine zab rfl rfl ?_ ?_);focus (first |omega|exact le_ rfl|((repeat' refine And.intro ?_ ?_)<;>omega)))|refine zaw rfl ?_|fail)
    all_goals rfl

def pairT (p : Fld) : List Txt := [p.1, p.2]
def textsS (s : SrcR) : List Txt := [s.arch, s.csv, s.key, s.attr] ++ s.only ++ s.notl ++ s.lays.flatMap pairT
def fitS (s : SrcR) : Prop := s.lays.length ≤ 1000000 ∧ s.only.length ≤ 1000000 ∧ s.notl.length ≤ 1000000
theorem zhR {s : SrcR} (h : fitS s) : smallS s := ⟨Nat.le_trans h.1 (by decide), Nat.le_trans h.2.1 (by decide), Nat.le_trans h.2.2 (by decide)⟩
section
variable {α : Type} {f : α → Txt} {d : α} {l : List α} {i : Nat}
theorem zhB (hi : i < l.length) : f (l.getD i d) ∈ (l.map f).take i ↔ ∃ k, k < i ∧ f (l.getD k d) = f (l.getD i d) := by
  rw [List.mem_iff_getElem]
  constructor
  · rintro ⟨k, hk, e⟩
    rw [List.length_take] at hk
    rw [List.getElem_take, List.getElem_map] at e
    refine ⟨k, by omega, ?_⟩
    rw [← e]
    simp [List.getD_eq_getElem?_getD, show k < l.length by omega]
  · rintro ⟨k, hk, e⟩
    refine ⟨k, by rw [List.length_take, List.length_map]; omega, ?_⟩
    rw [List.getElem_take, List.getElem_map, ← e]
    simp [List.getD_eq_getElem?_getD, show k < l.length by omega]
theorem zko (hi : i < l.length) : f (l.getD i d) ∉ (l.map f).take i ↔ ∀ k, k < i → ¬ f (l.getD k d) = f (l.getD i d) :=
  ⟨fun h k hk e => h ((zhB hi).2 ⟨k, hk, e⟩), fun h q => let ⟨k, hk, e⟩ := (zhB hi).1 q; h k hk e⟩
theorem zhO (hi : i < l.length) : (l.map f).take (i + 1) = (l.map f).take i ++ [f (l.getD i d)] := by
  rw [List.take_add_one]
  simp [List.getD_eq_getElem?_getD, hi]
end
theorem zou {l : List Fld} {i : Nat} (hi : i < l.length) : (l.take (i + 1)).flatMap pairT = (l.take i).flatMap pairT ++ pairT (l.getD i ([], [])) := by
  rw [List.take_add_one, List.flatMap_append]
  simp [List.getD_eq_getElem?_getD, hi]
theorem zpU (l : List Fld) : (l.flatMap pairT).all validL = true ↔ ∀ i, i < l.length → validL (l.getD i ([], [])).1 = true ∧ validL (l.getD i ([], [])).2 = true := by
  have e : ∀ i (hi : i < l.length), l.getD i ([], []) = l[i] := fun i hi => by simp [List.getD_eq_getElem?_getD, hi]
  rw [List.all_flatMap, List.all_eq_true]
  constructor
  · intro h i hi
    have := h _ (List.getElem_mem hi)
    rw [e i hi]
    simpa [pairT] using this
  · intro h p hp
    obtain ⟨i, hi, rfl⟩ := List.mem_iff_getElem.1 hp
    have := h i hi
    rw [e i hi] at this
    simpa [pairT] using this
def disS (s : SrcR) : Prop := ∀ i, i < s.lays.length → ∀ k, k < i → ¬ (s.lays.getD k ([], [])).1 = (s.lays.getD i ([], [])).1
theorem zge (s : SrcR) : okSrc s ↔ disS s ∧ ¬ s.arch = [] ∧ (textsS s).all validL = true ∧ (¬ s.csv = [] ∨ noneJ s) := by
  unfold okSrc textsS disS layOk
  rw [List.all_append, List.all_append, List.all_append, Bool.and_eq_true, Bool.and_eq_true, Bool.and_eq_true, zpU]
  constructor
  · rintro ⟨h1, h2, h3, h4, h5, h6⟩
    exact ⟨fun i hi k hk => (h5 i hi).2.2 k hk, h1, ⟨⟨⟨h2, h3⟩, h4⟩, fun i hi => ⟨(h5 i hi).1, (h5 i hi).2.1⟩⟩, h6⟩
  · rintro ⟨h5, h1, ⟨⟨⟨h2, h3⟩, h4⟩, h7⟩, h6⟩
    exact ⟨h1, h2, h3, h4, fun i hi => ⟨(h7 i hi).1, (h7 i hi).2, fun k hk => h5 i hi k hk⟩, h6⟩
theorem zlo (s : SrcR) : (textsS s).length = 4 + s.only.length + s.notl.length + 2 * s.lays.length := by
  unfold textsS
  have : ∀ l : List Fld, (l.flatMap pairT).length = 2 * l.length := fun l => by
    induction l with
    | nil => rfl
    | cons p r ih =>
      rw [List.flatMap_cons, List.length_append, ih]
      show 2 + _ = 2 * (r.length + 1)
      omega
  simp only [List.length_append, this, List.length_cons, List.length_nil]
theorem zjK {l : List Txt} {n : Nat} (h : ∀ t ∈ l, t.length ≤ n) (i : Nat) : (l.getD i []).length ≤ n := by
  by_cases hi : i < l.length
  · rw [show l.getD i [] = l[i] by simp [List.getD_eq_getElem?_getD, hi]]
    exact h _ (List.getElem_mem hi)
  · rw [List.getD_eq_getElem?_getD, List.getElem?_eq_none (by omega)]
    exact Nat.zero_le _
theorem zly {s : SrcR} (h : bigS s) (i : Nat) : ((textsS s).getD i []).length ≤ 1048576 := by
  obtain ⟨b1, b2, b3, b4, b5, b6, b7⟩ := h
  refine zjK (fun t ht => ?_) i
  have at' : ∀ (l : List Txt), (∀ i, bigT (l.getD i [])) → t ∈ l → t.length ≤ 1048576 := fun l hl hm => by
    obtain ⟨i, hi, rfl⟩ := List.mem_iff_getElem.1 hm
    have := hl i
    rwa [show l.getD i [] = l[i] by simp [List.getD_eq_getElem?_getD, hi]] at this
  unfold textsS at ht
  rcases List.mem_append.1 ht with ht | ht
  · rcases List.mem_append.1 ht with ht | ht
    · rcases List.mem_append.1 ht with ht | ht
      · rcases List.mem_cons.1 ht with rfl | ht
        · exact b1
        rcases List.mem_cons.1 ht with rfl | ht
        · exact b2
        rcases List.mem_cons.1 ht with rfl | ht
        · exact b3
        rcases List.mem_cons.1 ht with rfl | ht
        · exact b4
        cases ht
      · exact at' _ b5 ht
    · exact at' _ b6 ht
  · obtain ⟨p, hp, ht⟩ := List.mem_flatMap.1 ht
    obtain ⟨i, hi, rfl⟩ := List.mem_iff_getElem.1 hp
    have := b7 i
    rw [show s.lays.getD i ([], []) = s.lays[i] by simp [List.getD_eq_getElem?_getD, hi]] at this
    rcases List.mem_cons.1 ht with rfl | ht
    · exact this.1
    rcases List.mem_cons.1 ht with rfl | ht
    · exact this.2
    cases ht

theorem zgO {O : Nat → Option Own} : ∀ {lo : Ow}, hasAll O lo → updO O lo = O
  | [], _ => rfl
  | (k, o) :: r, h => by
    have e : (fun j => if j = k then some o else O j) = O := by
      funext j
      by_cases hj : j = k
      · subst hj
        rw [if_pos rfl]
        exact h.1.symm
      · rw [if_neg hj]
    show updO (fun j => if j = k then some o else O j) r = O
    rw [e]
    exact zgO h.2
theorem zeS {O O' : Nat → Option Own} : ∀ {lo : Ow}, hasAll O lo → (∀ j ∈ lo.map (·.1), O' j = O j) → hasAll O' lo
  | [], _, _ => trivial
  | (k, o) :: r, h, hc => ⟨(hc k (by simp)).trans h.1, zeS h.2 fun j hj => hc j (by simp at hj ⊢; exact .inr hj)⟩
theorem zlN {P : Program} {X : Ctx} {n : Nat} {fr : Fr} {ow : Ow} {d : D} {o : Oper} {f : FuncId} {args : List D} {lo : Ow} {ids : List Nat} (hP : ∀ vs w, (callFunc f vs).run P w = .ok (.enter f vs) w) (hc : callOf fr o.op = some (f, args)) (hk : hasAll (fun k => look k ow) lo)
    (hi : lo.map (·.1) = ids) (hnd : ids.Nodup) (hok : (args.map (lendA ids)).all (D.okIn ids) = true) (hf1 : lo.all (fun x => x.2.okIn ids) = true) (hf3 : d.okIn ids = true)
    (hC : CtrO P f (args.map (lendA ids)) lo d lo) (hd : dstOk o.dst n) :
    ∀ F' O', (∀ x ∈ o.op.operands.toList, evF F' x = evF (fF fr) x) → (∀ j ∈ ids, O' j = fO ow j) → StepAt P X n o F' O' d [] := by
  intro F' O' he hO
  have h := zdq (X := X) (n := n) hP hc hk hi hi hnd hok hf1 hf1 hf3 hC hd F' O' he hO
  have e : updO O' lo = updO O' [] := zgO (zeS hk fun j hj => hO j (by rw [← hi]; exact hj))
  unfold StepAt at h ⊢
  rw [e] at h
  exact h
theorem zpC {P : Program} {X : Ctx} {n : Nat} {o : Oper} {fr : Fr} {ow : Ow} {ty : TypeId} {k : Nat} {B' : Tb} {zd : D} (hB : tb P = B') (ho : o.op = .alloc ty) (hz : B'.zr ty = some zd) (hs : zd.solid = true) (h1 : zd.cells.all D.one = true) (hk : look k ow = none) (hd : dstOk o.dst n) :
    ∀ F' O', (∀ y ∈ o.op.operands.toList, evF F' y = evF (fF fr) y) → (∀ j ∈ [k], O' j = fO ow j) → StepAt P X n o F' O' (.pv k 0) [(k, .var zd.cells)] := by
  intro F' O' he hO
  have hz' : zeroD P ty = some zd := by subst hB; exact hz
  obtain ⟨i, zv, g1, g2, g3⟩ := zbj hz'
  refine zax hd fun a w S r hH hI hr => ?_
  have hk' : O' k = none := (hO k (by simp)).trans hk
  have hv := zbv S w r zv
  rw [← g3] at hv
  obtain ⟨S', r', q1, q2, q3, q4, q5, q6⟩ := zki ty hH hI hv hs h1 hk'
  refine ⟨_, _, S', r', .inl ?_, q1, q2, q3, q4, q5, q6⟩
  simp [execOp, ho, Instr.alloc, zeroValue, typeInfo, g1, g2, newVar, newRow]
section
variable {X : Ctx} {n : Nat} {all rest : List Oper} {fr : Fr} {ow : Ow} {tr : List (List Nat × List Nat)} {K : Fr → Ow → List (List Nat × List Nat) → Prop}
variable {t k : Nat} {op : Op} {ty ty' : TypeId} {ps : String} {af : Array Edge} {d : D} {f : FuncId} {args : List D} {g u : Nat} {want : Bool}
theorem znx (lo : Ow) (ids : List Nat) (hi : lo.map (·.1) = ids) (hnd : ids.Nodup) (hc : callOf fr op = some (f, args)) (hn : Nat.blt t n = true) (hP : ∀ vs w, (callFunc f vs).run Tryz.prog w = .ok (.enter f vs) w) (hk : hasAll (fun k => look k ow) lo)
    (hok : (args.map (lendA ids)).all (D.okIn ids) = true) (hf1 : lo.all (fun x => x.2.okIn ids) = true) (hf3 : d.okIn ids = true)
    (hC : CtrO Tryz.prog f (args.map (lendA ids)) lo d lo)
    (h : CT Tryz.prog X n all rest ((t, d) :: fr) ow (tr ++ [(ids, [])]) K) : CT Tryz.prog X n all (⟨some t, op, ty, ps, af, none⟩ :: rest) fr ow tr K :=
  CT.cons (e := ⟨d, ids, []⟩) (.plain rfl (zlN (o := ⟨some t, op, ty, ps, af, none⟩) (ow := ow) hP hc hk hi hnd hok hf1 hf3 hC (show t < n by simpa using hn))) (zaH ..) rfl h
theorem zrC {zd : D} (k : Nat) (o : Oper) (ho : o.op = .alloc ty) (hg : o.guard = none) (hds : o.dst = some t) (hz : B.zr ty = some zd) (hs : zd.solid = true) (h1 : zd.cells.all D.one = true) (hk : look k ow = none) (hn : Nat.blt t n = true)
    (h : CT Tryz.prog X n all rest ((t, .pv k 0) :: fr) ((k, .var zd.cells) :: ow) (tr ++ [([k], [k])]) K) : CT Tryz.prog X n all (o :: rest) fr ow tr K := by
  have e := zcD
  have h1' := @zpC Tryz.prog X n o fr ow ty k B zd e ho hz hs h1 hk (by rw [hds]; exact Nat.le_of_ble_eq_true hn)
  refine CT.cons (e := ⟨.pv k 0, [k], [(k, .var zd.cells)]⟩) (.plain hg h1') ?_ (zaL ..) h
  rw [hds]
  exact zaH ..
theorem zmF {zd : D} (k : Nat) (hz : B.zr ty = some zd) (hs : zd.solid = true) (h1 : zd.cells.all D.one = true) (hk : look k ow = none) (hn : Nat.blt t n = true)
    (h : CT Tryz.prog X n all rest ((t, .pv k 0) :: fr) ((k, .var zd.cells) :: ow) (tr ++ [([k], [k])]) K) : CT Tryz.prog X n all (⟨some t, .alloc ty, ty', ps, af, none⟩ :: rest) fr ow tr K := by
  generalize ho : (⟨some t, .alloc ty, ty', ps, af, none⟩ : Oper) = o
  exact zrC k o (by rw [← ho]) (by rw [← ho]) (by rw [← ho]) hz hs h1 hk hn h
end

abbrev Ents := List (List UInt8 × D)
def mget (key : List UInt8) : Ents → Option D
  | [] => none
  | p :: r => if p.1 = key then some p.2 else mget key r
def mput (key : List UInt8) (d : D) : Ents → Ents
  | [] => [(key, d)]
  | p :: r => if p.1 = key then (key, d) :: r else p :: mput key d r
def mpos (key : List UInt8) : Ents → Nat
  | [] => 0
  | p :: r => if p.1 = key then 0 else mpos key r + 1
theorem zrz (key : List UInt8) : ∀ es : Ents, mpos key es ≤ es.length
  | [] => Nat.le_refl _
  | p :: r => by
    have := zrz key r
    unfold mpos
    split
    · simp
    · simpa using this
theorem zkP (key : List UInt8) : ∀ es : Ents, mpos key es < es.length → (es.getD (mpos key es) ([], .any)).1 = key
  | [], h => by simp at h
  | p :: r, h => by
    unfold mpos at h ⊢
    by_cases hk : p.1 = key
    · simp [hk]
    · rw [if_neg hk] at h ⊢
      have := zkP key r (by simpa using h)
      simpa using this
theorem zhi (key : List UInt8) : ∀ es : Ents, mget key es = if mpos key es < es.length then some (es.getD (mpos key es) ([], .any)).2 else none
  | [] => rfl
  | p :: r => by
    have ih := zhi key r
    unfold mget mpos
    by_cases h : p.1 = key
    · simp [h]
    · rw [if_neg h, if_neg h, ih]
      simp
theorem zlf (key : List UInt8) (d : D) : ∀ es : Ents, mput key d es = if mpos key es < es.length then es.set (mpos key es) (key, d) else es ++ [(key, d)]
  | [] => rfl
  | p :: r => by
    have ih := zlf key d r
    unfold mput mpos
    by_cases h : p.1 = key
    · simp [h]
    · rw [if_neg h, if_neg h, ih]
      simp only [List.length_cons, Nat.add_lt_add_iff_right]
      split <;> simp
def KeysOk : Ents → List MapEntry → Prop
  | [], [] => True
  | p :: r, e :: l => e.key = .string ⟨p.1.toArray⟩ ∧ KeysOk r l
  | _, _ => False
theorem znh : ∀ {es : Ents} {l : List MapEntry}, l.length = es.length → (∀ j, j < es.length → (l.getD j default).key = .string ⟨(es.getD j ([], .any)).1.toArray⟩) → KeysOk es l
  | [], [], _, _ => trivial
  | [], _ :: _, h, _ => by simp at h
  | _ :: _, [], h, _ => by simp at h
  | p :: r, e :: l, hn, h => ⟨h 0 (by simp), znh (by simpa using hn) fun j hj => by
      have := h (j + 1) (by simpa using hj)
      simpa using this⟩
theorem zsr (a b : List UInt8) : ((⟨a.toArray⟩ : ByteArray) == ⟨b.toArray⟩) = decide (a = b) := by
  by_cases h : a = b
  · subst h
    simp [MapKept.bytes_beq]
  · rw [decide_eq_false h]
    cases hb : ((⟨a.toArray⟩ : ByteArray) == ⟨b.toArray⟩) with
    | false => rfl
    | true =>
      have := (MapKept.bytes_beq _ _).1 hb
      simp at this
      exact absurd this h
theorem zgX (key : List UInt8) : ∀ (es : Ents) (l : List MapEntry) (i : Nat), KeysOk es l →
    Instr.findNow .string (.string ⟨key.toArray⟩) l i = some (if mpos key es < es.length then some (i + mpos key es, (l.getD (mpos key es) default).val) else none)
  | [], [], i, _ => rfl
  | [], _ :: _, _, h => h.elim
  | _ :: _, [], _, h => h.elim
  | p :: r, e :: l, i, h => by
    have ih := zgX key r l (i + 1) h.2
    have hs : Instr.sameNow .string (.string ⟨key.toArray⟩) e.key = some (decide (key = p.1)) := by
      rw [h.1]
      show some _ = _
      rw [zsr]
    unfold Instr.findNow
    rw [hs]
    unfold mpos
    by_cases hk : p.1 = key
    · rw [decide_eq_true hk.symm]
      simp [hk]
    · rw [decide_eq_false (fun h => hk h.symm)]
      simp only [ih, hk, if_false, List.length_cons, Nat.add_lt_add_iff_right]
      split
      · simp
        omega
      · rfl
section
variable {P : Program} {X : Ctx} {n : Nat} {O : Nat → Option Own} {w : World} {S : Cells} {r : Rho}
theorem zjd {k : Nat} {es : Ents} (h : ObjOk S w r k (.mp es)) : ∃ b arr clock, r k = some (.blk b) ∧ w.heap[b]? = some (.map arr clock) ∧ KeysOk es arr.toList ∧ arr.size = es.length ∧ (∀ j, j < es.length → EntOk S w r (es.getD j ([], .any)) (arr.getD j default)) ∧ BornOk arr clock ∧ ∀ o, ¬ S b o := by
  obtain ⟨b, arr, clock, h1, h2, h3, h4, h5, h6⟩ := h
  refine ⟨b, arr, clock, h1, h2, znh (by simpa using h3) (fun j hj => ?_), h3, h4, h5, h6⟩
  have := (h4 j hj).1
  simpa [List.getD_eq_getElem?_getD, Array.getD_eq_getD_getElem?] using this
theorem zpT (hH : Hist X w S) (hI : Inv X w S r O) {k : Nat} (hk : O k = none) :
    ∃ r', Rel S (w.alloc (.map #[] 0)) r' (.mh k) (.map (some w.heap.size)) ∧ Hist X (w.alloc (.map #[] 0)) S ∧ Inv X (w.alloc (.map #[] 0)) S r' (updO O [(k, .mp [])]) ∧
      (∀ b o, S b o → (w.alloc (.map #[] 0)).cell? ⟨b, o, none⟩ = w.cell? ⟨b, o, none⟩) ∧ RhoLe r r' := by
  have hc := Chg.alloc w S hH.valid (.map #[] 0)
  have hr : RhoLe r (updR r k (.blk w.heap.size)) := RhoLe.new (hI.dom k hk)
  have hk0 : updR r k (.blk w.heap.size) k = some (.blk w.heap.size) := by simp [updR]
  refine ⟨updR r k (.blk w.heap.size), .mh _ k _ hk0, ?_, ?_, hc.cell, hr⟩
  · exact hH.chg hc (fun b hb => by cases hb) (fun _ _ h => h) (fun b o h => .inl h)
  · refine hI.put hc (fun _ _ h => h) hr k _ (.blk w.heap.size) ?_ hk0 (fun j hj => by simp [updR, hj]) (fun b hb => ?_) (fun b hb => by cases hb) (fun b o h => .inl h)
    · exact ⟨w.heap.size, #[], 0, hk0, heap_alloc_new w _, rfl, fun j hj => by simp at hj, ⟨fun i j _ h => by simp at h, fun i h => by simp at h⟩, fun o ho => by have := hH.valid _ _ ho; omega⟩
    · simp only [Loc.block, Option.some.injEq] at hb
      subst hb
      exact .inl ⟨Nat.le_refl _, .inl hH.size⟩
theorem zku {es es2 : Ents} {arr arr2 : Array MapEntry} {clock clock2 b : Nat} (hH : Hist X w S) (hI : Inv X w S r O) {k : Nat} (_hk : O k = some (.mp es)) (hb : r k = some (.blk b)) (hw : w.heap[b]? = some (.map arr clock)) (hS : ∀ o, ¬ S b o)
    (hn : arr2.size = es2.length) (he : ∀ j, j < es2.length → EntOk S w r (es2.getD j ([], .any)) (arr2.getD j default)) (hbo : BornOk arr2 clock2) :
    Hist X { w with heap := w.heap.setIfInBounds b (.map arr2 clock2) } S ∧ Inv X { w with heap := w.heap.setIfInBounds b (.map arr2 clock2) } S r (updO O [(k, .mp es2)]) ∧
      (∀ b' o, S b' o → ({ w with heap := w.heap.setIfInBounds b (.map arr2 clock2) } : World).cell? ⟨b', o, none⟩ = w.cell? ⟨b', o, none⟩) := by
  have hc := Chg.setObj w S b (.map arr2 clock2) hS
  have hlow := hI.low k _ b hb rfl
  refine ⟨?_, ?_, hc.cell⟩
  · exact hH.chg hc (fun b' hb' => by cases hb'; exact hlow) (fun _ _ h => h) (fun b o h => .inl h)
  · refine hI.put hc (fun _ _ h => h) (RhoLe.refl r) k _ (.blk b) ?_ hb (fun _ _ => rfl) (fun b' hb' => .inr ⟨_, hb, hb'⟩) (fun b' hb' => ⟨_, hb, hb'⟩) (fun b o h => .inl h)
    have hlt := (Array.getElem?_eq_some_iff.1 hw).1
    exact ⟨b, arr2, clock2, hb, by simp [hlt], hn, fun j hj => ⟨(he j hj).1, (he j hj).2.1.mono (fun _ _ h => h) hc.cell r (RhoLe.refl r), (he j hj).2.2⟩, hbo, hS⟩
variable {o : Oper} {fr : Fr} {ow : Ow} {t k : Nat} {ty kt et : TypeId} {x y z : Operand} {es : Ents} {key : List UInt8}
theorem znK (ho : o.op = .makeMap ty none) (ht : look t ow = none) (hd : dstOk o.dst n) :
    ∀ F' O', (∀ y ∈ o.op.operands.toList, evF F' y = evF (fF fr) y) → (∀ j ∈ [t], O' j = fO ow j) → StepAt P X n o F' O' (.mh t) [(t, .mp [])] := by
  intro F' O' he hO
  refine zax hd fun a w S r hH hI hr => ?_
  have hk : O' t = none := (hO t (by simp)).trans ht
  obtain ⟨r', g1, g2, g3, g4, g5⟩ := zpT hH hI hk
  refine ⟨_, _, S, r', .inl ?_, g1, g2, g3, fun _ _ h => h, g4, g5⟩
  simp [execOp, ho, Instr.makeMap, newObj, Sem.run, Result.andThen]
def gotD (ok : Bool) (d : D) (c : Bool) : D :=
  match c with
  | true => .tu [d, .b ok]
  | false => d
theorem zmz {d : D} {v : Value} (h : Rel S w r d v) (ok c : Bool) : Rel S w r (gotD ok d c) (if c then .tuple #[v, .bool ok] else v) := by
  cases c with
  | false => exact h
  | true =>
    refine .tu _ _ _ rfl fun j hj => ?_
    match j, hj with
    | 0, _ => exact h
    | 1, _ => exact .b ..
theorem zhY {d : D} {c : Bool} (hm : P.underlying ty = some (.map kt et)) (hkt : P.underlying kt = some .string) (ho : o.op = .lookup ty x y c) (hx : ev fr x = .mh k) (hy : ev fr y = .s key) (hk : look k ow = some (.mp es)) (hg : mget key es = some d) (hd : dstOk o.dst n) :
    ∀ F' O', (∀ y ∈ o.op.operands.toList, evF F' y = evF (fF fr) y) → (∀ j ∈ [k], O' j = fO ow j) → StepAt P X n o F' O' (gotD true d c) [] := by
  intro F' O' he hO
  refine zax hd fun a w S r hH hI hr => ?_
  have hx' := hr x
  rw [he x (by simp [ho, Op.operands]), zaZ, hx] at hx'
  have hy' := hr y
  rw [he y (by simp [ho, Op.operands]), zaZ, hy] at hy'
  obtain ⟨b, arr, clock, h1, h2, h3, h4, h5, h6, h7⟩ := zjd (hI.obj k _ ((hO k (by simp)).trans hk))
  generalize hvx : a.eval x = vx at hx'
  generalize hvy : a.eval y = vy at hy'
  cases hy'
  cases hx' with
  | mh _ _ b' hb' =>
    rw [h1] at hb'
    cases hb'
    have hf := zgX key es arr.toList 0 h3
    rw [zhi] at hg
    split at hg
    · rename_i hlt
      rw [if_pos hlt] at hf
      obtain ⟨_, hev, _⟩ := h5 _ hlt
      rw [Option.some.inj hg] at hev
      have e1 : arr.toList.getD (mpos key es) default = arr.getD (mpos key es) default := by simp [List.getD_eq_getElem?_getD, Array.getD_eq_getD_getElem?]
      rw [e1] at hf
      refine zaE hH hI rfl ?_ (zmz hev true c)
      simp [execOp, ho, hvx, hvy, Instr.lookup, run_underlying hm, MapKept.run_getObj_map h2, MapKept.run_checkKey hkt (show MapKept.IsKey .string (.string ⟨key.toArray⟩) from trivial), MapKept.run_findKey hkt hf, Result.andThen]
    · cases hg
theorem zgH {zd : D} {c : Bool} {B' : Tb} (hB : tb P = B') (hz : B'.zr et = some zd) (hm : P.underlying ty = some (.map kt et)) (hkt : P.underlying kt = some .string) (ho : o.op = .lookup ty x y c) (hx : ev fr x = .mh k) (hy : ev fr y = .s key) (hk : look k ow = some (.mp es)) (hg : mget key es = none) (hd : dstOk o.dst n) :
    ∀ F' O', (∀ y ∈ o.op.operands.toList, evF F' y = evF (fF fr) y) → (∀ j ∈ [k], O' j = fO ow j) → StepAt P X n o F' O' (gotD false zd c) [] := by
  intro F' O' he hO
  have hz' : zeroD P et = some zd := by subst hB; exact hz
  obtain ⟨i, zv, q1, q2, q3⟩ := zbj hz'
  refine zax hd fun a w S r hH hI hr => ?_
  have hx' := hr x
  rw [he x (by simp [ho, Op.operands]), zaZ, hx] at hx'
  have hy' := hr y
  rw [he y (by simp [ho, Op.operands]), zaZ, hy] at hy'
  obtain ⟨b, arr, clock, h1, h2, h3, h4, h5, h6, h7⟩ := zjd (hI.obj k _ ((hO k (by simp)).trans hk))
  have hzv := zbv S w r zv
  rw [← q3] at hzv
  generalize hvx : a.eval x = vx at hx'
  generalize hvy : a.eval y = vy at hy'
  cases hy'
  cases hx' with
  | mh _ _ b' hb' =>
    rw [h1] at hb'
    cases hb'
    have hf := zgX key es arr.toList 0 h3
    rw [zhi] at hg
    split at hg
    · cases hg
    · rename_i hlt
      rw [if_neg hlt] at hf
      refine zaE hH hI rfl ?_ (zmz hzv false c)
      simp [execOp, ho, hvx, hvy, Instr.lookup, run_underlying hm, MapKept.run_getObj_map h2, MapKept.run_checkKey hkt (show MapKept.IsKey .string (.string ⟨key.toArray⟩) from trivial), MapKept.run_findKey hkt hf, Result.andThen, zeroValue, typeInfo, q1, q2]
theorem zoi {d : D} (hm : P.underlying ty = some (.map kt et)) (hkt : P.underlying kt = some .string) (ho : o.op = .mapUpdate ty x y z) (hx : ev fr x = .mh k) (hy : ev fr y = .s key) (hz : ev fr z = d) (h1d : d.one = true) (hk : look k ow = some (.mp es)) (hdst : o.dst = none) :
    ∀ F' O', (∀ y ∈ o.op.operands.toList, evF F' y = evF (fF fr) y) → (∀ j ∈ [k], O' j = fO ow j) → StepAt P X n o F' O' .any [(k, .mp (mput key d es))] := by
  intro F' O' he hO
  refine zax (by rw [hdst]; trivial) fun a w S r hH hI hr => ?_
  have hx' := hr x
  rw [he x (by simp [ho, Op.operands]), zaZ, hx] at hx'
  have hy' := hr y
  rw [he y (by simp [ho, Op.operands]), zaZ, hy] at hy'
  have hz' := hr z
  rw [he z (by simp [ho, Op.operands]), zaZ, hz] at hz'
  have hkO := (hO k (by simp)).trans hk
  obtain ⟨b, arr, clock, h1, h2, h3, h4, h5, h6, h7⟩ := zjd (hI.obj k _ hkO)
  generalize hvx : a.eval x = vx at hx'
  generalize hvy : a.eval y = vy at hy'
  generalize hvz : a.eval z = vz at hz'
  cases hy'
  cases hx' with
  | mh _ _ b' hb' =>
    rw [h1] at hb'
    cases hb'
    have hf := zgX key es arr.toList 0 h3
    rw [zlf]
    by_cases hlt : mpos key es < es.length
    · rw [if_pos hlt] at hf ⊢
      obtain ⟨hek, hev, heo⟩ := h5 _ hlt
      have hsz : mpos key es < arr.size := by omega
      have hj : arr[mpos key es]? = some (arr.getD (mpos key es) default) := by simp [Array.getD_eq_getD_getElem?, hsz]
      have hkey : (es.getD (mpos key es) ([], .any)).1 = key := zkP key es hlt
      rw [hkey] at hek
      have hk0 : MapKept.IsKey .string (.string ⟨key.toArray⟩) := trivial
      have hgm : ∀ j, (arr.modify (mpos key es) fun e => { e with key := .string ⟨key.toArray⟩, val := vz }).getD j default = if j = mpos key es then { arr.getD (mpos key es) default with key := .string ⟨key.toArray⟩, val := vz } else arr.getD j default := fun j => by
        simp only [Array.getD_eq_getD_getElem?, Array.getElem?_modify]
        by_cases h : j = mpos key es
        · subst h
          simp [hsz]
        · rw [if_neg h, if_neg (fun e => h e.symm)]
      obtain ⟨g1, g2, g3⟩ := zku (es2 := es.set (mpos key es) (key, d)) (arr2 := arr.modify (mpos key es) fun e => { e with key := .string ⟨key.toArray⟩, val := vz }) (clock2 := clock) hH hI hkO h1 h2 h7 (by simpa using h4)
        (fun j hj2 => by
          rw [hgm]
          by_cases h : j = mpos key es
          · subst h
            rw [if_pos rfl, List.getD_eq_getElem?_getD, List.getElem?_set_self hlt]
            exact ⟨rfl, hz', h1d⟩
          · rw [if_neg h, List.getD_eq_getElem?_getD, List.getElem?_set_ne (fun e => h e.symm), ← List.getD_eq_getElem?_getD]
            exact h5 j (by simpa using hj2))
        (by
          have hb : ∀ j, ((arr.modify (mpos key es) fun e => { e with key := .string ⟨key.toArray⟩, val := vz }).getD j default).born = (arr.getD j default).born := fun j => by
            rw [hgm]
            by_cases h : j = mpos key es
            · subst h
              rw [if_pos rfl]
            · rw [if_neg h]
          refine ⟨fun i j hij hj2 => ?_, fun i hi2 => ?_⟩
          · rw [hb, hb]
            exact h6.1 i j hij (by simpa using hj2)
          · rw [hb]
            exact h6.2 i (by simpa using hi2))
      refine ⟨undef, _, S, r, .inr ⟨?_, rfl⟩, .any .., g1, g2, fun _ _ h => h, g3, RhoLe.refl r⟩
      obtain ⟨e0, hj0, hek0⟩ : ∃ e0, arr[mpos key es]? = some e0 ∧ e0.key = .string ⟨key.toArray⟩ := ⟨_, hj, hek⟩
      clear hj hek hev hgm
      simp [execOp, ho, hvx, hvy, hvz, Instr.mapUpdate, run_underlying hm, MapKept.run_getObj_map h2, MapKept.run_checkKey hkt hk0, MapKept.run_findKey hkt hf, hj0, hek0, MapKept.run_keyThatStays hk0, MapKept.run_setObj_map _ h2, Result.andThen]
    · rw [if_neg hlt] at hf ⊢
      have hk0 : MapKept.IsKey .string (.string ⟨key.toArray⟩) := trivial
      have hgp : ∀ j, (arr.push ⟨.string ⟨key.toArray⟩, vz, clock⟩).getD j default = if j = arr.size then ⟨.string ⟨key.toArray⟩, vz, clock⟩ else arr.getD j default := fun j => by
        simp only [Array.getD_eq_getD_getElem?, Array.getElem?_push]
        by_cases h : j = arr.size
        · subst h
          simp
        · rw [if_neg h, if_neg h]
      obtain ⟨g1, g2, g3⟩ := zku (es2 := es ++ [(key, d)]) (arr2 := arr.push ⟨.string ⟨key.toArray⟩, vz, clock⟩) (clock2 := clock + 1) hH hI hkO h1 h2 h7 (by simp [h4])
        (fun j hj2 => by
          rw [hgp]
          by_cases h : j = arr.size
          · subst h
            rw [if_pos rfl, h4, List.getD_eq_getElem?_getD, List.getElem?_append_right (Nat.le_refl _)]
            simp only [Nat.sub_self]
            exact ⟨rfl, hz', h1d⟩
          · have hj3 : j < es.length := by
              simp only [List.length_append, List.length_cons, List.length_nil] at hj2
              omega
            rw [if_neg h, List.getD_eq_getElem?_getD, List.getElem?_append_left hj3, ← List.getD_eq_getElem?_getD]
            exact h5 j hj3)
        (by
          refine ⟨fun i j hij hj2 => ?_, fun i hi2 => ?_⟩
          · rw [hgp, hgp]
            have hj3 : j < arr.size + 1 := by simpa using hj2
            rw [if_neg (show ¬ i = arr.size by omega)]
            by_cases h : j = arr.size
            · rw [if_pos h]
              exact h6.2 i (by omega)
            · rw [if_neg h]
              exact h6.1 i j hij (by omega)
          · rw [hgp]
            have hi3 : i < arr.size + 1 := by simpa using hi2
            by_cases h : i = arr.size
            · rw [if_pos h]
              exact Nat.lt_succ_self _
            · rw [if_neg h]
              exact Nat.lt_succ_of_lt (h6.2 i (by omega)))
      refine ⟨undef, _, S, r, .inr ⟨?_, rfl⟩, .any .., g1, g2, fun _ _ h => h, g3, RhoLe.refl r⟩
      simp [execOp, ho, hvx, hvy, hvz, Instr.mapUpdate, run_underlying hm, MapKept.run_getObj_map h2, MapKept.run_checkKey hkt hk0, MapKept.run_findKey hkt hf, MapKept.run_setObj_map _ h2, Result.andThen]
end
section
variable {X : Ctx} {n : Nat} {all rest : List Oper} {fr : Fr} {ow : Ow} {tr : List (List Nat × List Nat)} {K : Fr → Ow → List (List Nat × List Nat) → Prop}
variable {t k : Nat} {ty ty' kt et t2 : TypeId} {ps : String} {af : Array Edge} {x y z : Operand} {es : Ents} {key : List UInt8} {d : D} {c : Bool} {g u : Nat} {want : Bool}
set_option maxRecDepth 100000 in
theorem zmZ (ht : look t ow = none) (hn : Nat.blt t n = true) (h : CT Tryz.prog X n all rest ((t, .mh t) :: fr) ((t, .mp []) :: ow) (tr ++ [([t], [t])]) K) :
    CT Tryz.prog X n all (⟨some t, .makeMap ty none, ty', ps, af, none⟩ :: rest) fr ow tr K :=
  CT.cons (e := ⟨.mh t, [t], [(t, .mp [])]⟩) (.plain rfl (znK (o := ⟨some t, .makeMap ty none, ty', ps, af, none⟩) rfl ht (show t < n by simpa using hn))) (zaH ..) (zaL ..) h
set_option maxRecDepth 100000 in
theorem zqx (hm : Tryz.prog.underlying ty = some (.map kt et)) (hkt : Tryz.prog.underlying kt = some .string) (hx : ev fr x = .mh k) (hy : ev fr y = .s key) (hk : look k ow = some (.mp es)) (hg : mget key es = some d) (hn : Nat.blt t n = true)
    (h : CT Tryz.prog X n all rest ((t, gotD true d c) :: fr) ow (tr ++ [([k], [])]) K) : CT Tryz.prog X n all (⟨some t, .lookup ty x y c, ty', ps, af, none⟩ :: rest) fr ow tr K :=
  CT.cons (e := ⟨gotD true d c, [k], []⟩) (.plain rfl (zhY (o := ⟨some t, .lookup ty x y c, ty', ps, af, none⟩) hm hkt rfl hx hy hk hg (show t < n by simpa using hn))) (zaH ..) rfl h
set_option maxRecDepth 100000 in
theorem zrq (hm : Tryz.prog.underlying ty = some (.map kt et)) (hkt : Tryz.prog.underlying kt = some .string) (hu : dstAt all g = some u) (hgu : getD' u fr = .b want) (hx : ev fr x = .mh k) (hy : ev fr y = .s key) (hk : look k ow = some (.mp es)) (hg : mget key es = some d) (hn : Nat.blt t n = true)
    (h : CT Tryz.prog X n all rest ((t, gotD true d c) :: fr) ow (tr ++ [([k], [])]) K) : CT Tryz.prog X n all (⟨some t, .lookup ty x y c, ty', ps, af, some (g, want)⟩ :: rest) fr ow tr K :=
  CT.cons (e := ⟨gotD true d c, [k], []⟩) (.guarded rfl hu hgu (zhY (o := ⟨some t, .lookup ty x y c, ty', ps, af, some (g, want)⟩) hm hkt rfl hx hy hk hg (show t < n by simpa using hn))) (zaH ..) rfl h
set_option maxRecDepth 100000 in
theorem zjE (hm : Tryz.prog.underlying ty = some (.map kt et)) (hkt : Tryz.prog.underlying kt = some .string) (hz : B.zr et = some d) (hx : ev fr x = .mh k) (hy : ev fr y = .s key) (hk : look k ow = some (.mp es)) (hg : mget key es = none) (hn : Nat.blt t n = true)
    (h : CT Tryz.prog X n all rest ((t, gotD false d c) :: fr) ow (tr ++ [([k], [])]) K) : CT Tryz.prog X n all (⟨some t, .lookup ty x y c, ty', ps, af, none⟩ :: rest) fr ow tr K :=
  CT.cons (e := ⟨gotD false d c, [k], []⟩) (.plain rfl (zgH (o := ⟨some t, .lookup ty x y c, ty', ps, af, none⟩) zcD hz hm hkt rfl hx hy hk hg (show t < n by simpa using hn))) (zaH ..) rfl h
set_option maxRecDepth 100000 in
theorem zdU (hm : Tryz.prog.underlying ty = some (.map kt et)) (hkt : Tryz.prog.underlying kt = some .string) (hz : B.zr et = some d) (hu : dstAt all g = some u) (hgu : getD' u fr = .b want) (hx : ev fr x = .mh k) (hy : ev fr y = .s key) (hk : look k ow = some (.mp es)) (hg : mget key es = none) (hn : Nat.blt t n = true)
    (h : CT Tryz.prog X n all rest ((t, gotD false d c) :: fr) ow (tr ++ [([k], [])]) K) : CT Tryz.prog X n all (⟨some t, .lookup ty x y c, ty', ps, af, some (g, want)⟩ :: rest) fr ow tr K :=
  CT.cons (e := ⟨gotD false d c, [k], []⟩) (.guarded rfl hu hgu (zgH (o := ⟨some t, .lookup ty x y c, ty', ps, af, some (g, want)⟩) zcD hz hm hkt rfl hx hy hk hg (show t < n by simpa using hn))) (zaH ..) rfl h
set_option maxRecDepth 100000 in
theorem zgl (hm : Tryz.prog.underlying ty = some (.map kt et)) (hkt : Tryz.prog.underlying kt = some .string) (hx : ev fr x = .mh k) (hy : ev fr y = .s key) (hz : ev fr z = d) (h1 : d.one = true) (hk : look k ow = some (.mp es))
    (h : CT Tryz.prog X n all rest fr ((k, .mp (mput key d es)) :: ow) (tr ++ [([k], [k])]) K) : CT Tryz.prog X n all (⟨none, .mapUpdate ty x y z, ty', ps, af, none⟩ :: rest) fr ow tr K :=
  CT.cons (e := ⟨.any, [k], [(k, .mp (mput key d es))]⟩) (.plain rfl (zoi (o := ⟨none, .mapUpdate ty x y z, ty', ps, af, none⟩) hm hkt rfl hx hy hz h1 hk rfl)) rfl (zaL ..) h
end
end Go.Proofs.YtcajofhafpkbdaaGreatDoor.Flow
