/- The texts J11, G30, G31, Laid, LaidD, LaidK, one behind the other. -/
import Derived.Test.YtcajofhafpkbdaaGreatDoorCQ11
import Derived.Test.YtcajofhafpkbdaaGreatDoorCQ26
import Derived.Test.YtcajofhafpkbdaaGreatDoorCQ27
import Derived.Test.YtcajofhafpkbdaaGreatDoorCQ28
import Derived.LaidLaws
import Derived.MakeChecks
import Derived.Lay
import Derived.Shelf.LaysM
namespace Go.Proofs.YtcajofhafpkbdaaGreatDoor.Flow
open Go
theorem zht (r : J × Nat × Int) : (parD r).free = true := by
  unfold parD
  obtain ⟨⟨k, y, n, d, e, t, l, ks⟩, p, c⟩ := r
  dsimp only
  rw [zbz]
  rfl
set_option maxRecDepth 100000 in
set_option maxHeartbeats 4000000 in
theorem zjf (s : List UInt8) (hs : s.length ≤ 5000) : Ctr Tryz.prog 27 [.s s] (parD (jparse s)) := by
  have v1 := zmc s hs 64 (by decide) 0 (Nat.zero_le _)
  have hvo := zca s 64 0
  have hve := zhd s 64 0
  unfold jparse
  rw [if_neg (show ¬ 1048576 < s.length by omega)]
  cases hv : jval s 64 0 with
  | inr e =>
    obtain ⟨p, e⟩ := e
    have hve := hve p e hv
    rw [hv] at v1
    unfold rjD at v1
    dsimp only at v1
    rw [ziT] at v1
    replace v1 : Ctr Tryz.prog 56 [.s s, .i .i64 0, .i .i64 64] _ := v1
    refine zay Tryz.func27 rfl Tryz.ntmps27 Tryz.results27 rfl (zht _) fun X hL hX => ?_
    repeat' (first |refine zah (f := 56) rfl rfl Tryz.call56 rfl v1 ?_|with_reducible (first |refine zag ?_|refine zaa ?_|refine zaf ?_|refine zad ?_|refine zaj ?_|refine zai ?_|refine zal ?_)|refine zab rfl rfl True.intro ?_|((first |refine zac rfl ?_ ?_|refine zat rfl ?_ ?_)<;>intro<;>try (first |(exfalso;omega)))|((first |refine zao rfl rfl ?_ ?_|refine zar rfl ?_ ?_);focus (first |((repeat' refine And.intro ?_ ?_)<;>omega)|((repeat' refine And.intro ?_ ?_)<;>first |rfl|exact Nat.le_refl _)))|refine zaB rfl ?_|fail)
    all_goals exact zbu _ _
  | inl r =>
    obtain ⟨x, n⟩ := r
    have hvo := (hvo x n (Nat.zero_le _) hv).2
    rw [hv] at v1
    obtain ⟨k, y, g, d, e, t, l, ks⟩ := x
    unfold rjD at v1
    dsimp only at v1
    rw [zbz] at v1
    replace v1 : Ctr Tryz.prog 56 [.s s, .i .i64 0, .i .i64 64] _ := v1
    have c1 := zbF s n (by omega) hvo
    have hle := zbT (s := s) (i := n) hvo
    dsimp only
    by_cases h : skN s n < s.length
    · rw [if_pos h]
      refine zay Tryz.func27 rfl Tryz.ntmps27 Tryz.results27 rfl (zht _) fun X hL hX => ?_
      repeat' (first |refine zah (f := 56) rfl rfl Tryz.call56 rfl v1 ?_|refine zah (f := 57) rfl rfl Tryz.call57 rfl c1 ?_|with_reducible (first |refine zag ?_|refine zaa ?_|refine zaf ?_|refine zad ?_|refine zaj ?_|refine zai ?_|refine zal ?_)|refine zab rfl rfl True.intro ?_|refine zak rfl ?_|((first |refine zac rfl ?_ ?_)<;>intro<;>try (first |(exfalso;omega)))|((first |refine zao rfl rfl ?_ ?_|refine zar rfl ?_ ?_);focus (first |((repeat' refine And.intro ?_ ?_)<;>omega)|((repeat' refine And.intro ?_ ?_)<;>first |rfl|exact Nat.le_refl _)))|refine zaB rfl ?_|fail)
      all_goals exact zbu _ _
    · rw [if_neg h]
      have h2 : skN s n = s.length := by omega
      rw [h2] at c1
      clear hle h h2
      refine zay Tryz.func27 rfl Tryz.ntmps27 Tryz.results27 rfl (zht _) fun X hL hX => ?_
      repeat' (first |refine zah (f := 56) rfl rfl Tryz.call56 rfl v1 ?_|refine zah (f := 57) rfl rfl Tryz.call57 rfl c1 ?_|with_reducible (first |refine zag ?_|refine zaa ?_|refine zaf ?_|refine zad ?_|refine zaj ?_|refine zai ?_)|refine zab rfl rfl True.intro ?_|refine zak rfl ?_|((first |refine zac rfl ?_ ?_)<;>intro<;>try (first |(exfalso;omega)))|((first |refine zab rfl rfl ?_ ?_|refine zao rfl rfl ?_ ?_|refine zar rfl ?_ ?_);focus (first |exact le_ rfl|((repeat' refine And.intro ?_ ?_)<;>omega)|((repeat' refine And.intro ?_ ?_)<;>first |rfl|exact Nat.le_refl _)))|refine zaB rfl ?_|fail)
      all_goals exact .of_eq (by unfold parD; dsimp only; rw [zbz]; rfl)

def keyN : Nat → Txt
  | 0 => kBuffer
  | 1 => kMaxzoom
  | _ => kLimit
def vN (y : J) (j k : Nat) : Int := if j < k then (whJ (getJ y (keyN j)).1).1 else 0
theorem znt {y : J} (hy : goodJ y) (h : ¬ cmP y) : (rdCmp y).2 = false := by
  have hd := zoJ hy
  have : dnB y (cmN y) (cmB y) = false := Bool.eq_false_iff.2 fun q => h (hd.1 q)
  unfold rdCmp
  dsimp only
  rw [this, Bool.and_false]
theorem zoZ {y : J} (hy : goodJ y) (h : cmP y) : rdCmp y = (⟨(getJ y kId).1.text, (srcsP (getJ y kSources).1.list).1, vN y 0 3, vN y 1 3, vN y 2 3⟩, (srcsP (getJ y kSources).1.list).2) := by
  have hd := (zoJ hy).2 h
  obtain ⟨_, p1, p2, p3, p4, p5⟩ := h
  unfold rdCmp cmpOfJ
  rw [hd, Bool.and_true, zdj p1, zdj p2, zdj p3.1, zdj p4.1, zdj p5.1]
  rfl
theorem zeB {c : CmpR} (h : fitC c) : smallC c := ⟨h.1, fun i => zhR (h.2 i)⟩
set_option maxRecDepth 100000 in
set_option maxHeartbeats 32000000 in
theorem zoD (s : Txt) (hs : s.length ≤ 5000) : Ctr Tryz.prog 14 [.s s] (confPD (confP s)) := by
  have hg := zeP s (by omega)
  have c := zjf s hs
  unfold confP
  rw [cparD] at c
  replace c := c.weakS (.tu3 (zme _) (.refl _) (.refl _))
  generalize jparse s = R at c hg ⊢
  obtain ⟨x, p, e⟩ := R
  replace c : Ctr Tryz.prog 27 [.s s] (.tu [.ag (jQ x), .i .i64 p, .i .i64 e]) := c
  dsimp only at hg ⊢
  by_cases he : e = 0
  rotate_left
  · rw [if_pos he]
    refine zay Tryz.func14 rfl Tryz.ntmps14 Tryz.results14 rfl rfl fun X hL hX => ?_
    repeat' (first |refine zah (f := 27) rfl rfl Tryz.call27 rfl c ?_|with_reducible (first |refine zag ?_|refine zaa ?_|refine zaf ?_|refine zad ?_|refine zaj ?_|refine zal ?_)|refine zab rfl rfl True.intro ?_|((first |refine zat rfl ?_ ?_)<;>intro<;>try (first |(exfalso;omega)))|((first |refine zao rfl rfl ?_ ?_|refine zar rfl ?_ ?_);focus (first |((repeat' refine And.intro ?_ ?_)<;>omega)|((repeat' refine And.intro ?_ ?_)<;>first |rfl|exact Nat.le_refl _)))|refine zaB rfl ?_|fail)
    all_goals exact zbl e
  rw [if_neg (fun h => h he)]
  unfold confV
  by_cases hk : x.kind = 4
  rotate_left
  · rw [if_pos hk]
    refine zay Tryz.func14 rfl Tryz.ntmps14 Tryz.results14 rfl rfl fun X hL hX => ?_
    repeat' (first |refine zah (f := 27) rfl rfl Tryz.call27 rfl c ?_|with_reducible (first |refine zag ?_|refine zaa ?_|refine zaf ?_|refine zad ?_|refine zaj ?_|refine zai ?_|refine zal ?_)|refine zab rfl rfl True.intro ?_|((first |refine zat rfl ?_ ?_)<;>intro<;>try (first |(exfalso;omega)))|((first |refine zab rfl rfl ?_ ?_|refine zao rfl rfl ?_ ?_|refine zar rfl ?_ ?_);focus (first |exact le_ rfl|((repeat' refine And.intro ?_ ?_)<;>omega)|((repeat' refine And.intro ?_ ?_)<;>first |rfl|exact Nat.le_refl _)))|refine zaB rfl ?_|fail)
    all_goals exact zbl 3
  rw [if_neg (fun h => h hk)]
  have hlen := zct hg
  have hgA : ∀ i, i < x.list.length → goodJ (x.list.getD i j0) := fun i hi => zeA hg hi
  have hfit := zec (zcd hg)
  refine zay Tryz.func14 rfl Tryz.ntmps14 Tryz.results14 rfl (by split <;> rfl) fun X hL hX => ?_
  repeat' (first |refine zah (f := 27) rfl rfl Tryz.call27 rfl c ?_|with_reducible (first |refine zag ?_|refine zaa ?_|refine zaf ?_|refine zad ?_|refine zai ?_|refine zae ?_)|refine zab rfl rfl True.intro ?_|((first |refine zat rfl ?_ ?_)<;>intro<;>try (first |(exfalso;omega)))|((first |refine zab rfl rfl ?_ ?_|refine zao rfl rfl ?_ ?_|refine zar rfl ?_ ?_);focus (first |exact le_ rfl|((repeat' refine And.intro ?_ ?_)<;>omega)|((repeat' refine And.intro ?_ ?_)<;>first |rfl|exact Nat.le_refl _)))|fail)
  clear c
  refine T.adopt 7 107 27 5 (cmpF []) rfl rfl ?_
  refine T.loop hL (fun z : Nat × List CmpR => [(4, .pv 4 0), (7, .gs 107 5 z.2.length (cmpF z.2)), (8, .i .i64 z.1)]) (fun z => [(4, .var (jQ x)), (107, .row 27 5 z.2.length)])
    (fun z => z.1 ≤ x.list.length ∧ z.2.length = z.1 ∧ cmpsP x.list = (z.2 ++ (cmpsP (x.list.drop z.1)).1, (cmpsP (x.list.drop z.1)).2)) (fun z => x.list.length - z.1) (0, []) ⟨Nat.zero_le _, rfl, by simp⟩
    ⟨⟨rfl, rfl, rfl, trivial⟩, ⟨rfl, rfl, trivial⟩, rfl, by rw [hX]; simp⟩ ?_
  rintro ⟨i, acc⟩ ⟨g1, g2, g3⟩
  dsimp only at g1 g2 g3 ⊢
  have hnat : (i : Int).toNat = i := Int.toNat_natCast i
  by_cases hil : i < x.list.length
  rotate_left
  · have hil' : ¬ (i : Int) < x.list.length := by omega
    have g5 : cmpsP x.list = (acc, true) := by
      rw [g3, List.drop_eq_nil_of_le (by omega)]
      show (acc ++ [], true) = _
      rw [List.append_nil]
    rw [g5] at hfit ⊢
    have hf2 := zbR (p := fun s => fitC s ∧ bigC s) hfit ⟨fitC0, bigC0⟩
    have cR := zmk acc ⟨by omega, fun i => zeB (hf2 i).1⟩ (fun i => (hf2 i).2)
    clear g3 g5 hfit hf2
    by_cases hok : okL acc
    · rw [decide_eq_true hok] at cR
      rw [if_pos ⟨rfl, hok⟩]
      repeat' (first |refine zah (f := 18) rfl rfl Tryz.call18 rfl cR ?_|with_reducible (first |refine zag ?_|refine zaa ?_|refine zaf ?_|refine zad ?_|refine zaj ?_|refine zai ?_|refine zaz ?_|refine zaA ?_)|refine zab rfl rfl True.intro ?_|refine zak rfl ?_|((first |refine zac rfl ?_ ?_)<;>intro<;>try (first |(exfalso;omega)))|((first |refine zab rfl rfl ?_ ?_);focus (first |exact le_ rfl|((repeat' refine And.intro ?_ ?_)<;>omega)))|refine zaJ rfl ?_|refine zaB rfl ?_|fail)
      all_goals exact .of_eq rfl
    · rw [decide_eq_false hok] at cR
      rw [if_neg (fun h => hok h.2)]
      repeat' (first |refine zah (f := 18) rfl rfl Tryz.call18 rfl cR ?_|with_reducible (first |refine zag ?_|refine zaa ?_|refine zaf ?_|refine zad ?_|refine zaj ?_|refine zaz ?_|refine zaA ?_|refine zal ?_)|refine zab rfl rfl True.intro ?_|refine zas rfl ?_|((first |refine zac rfl ?_ ?_)<;>intro<;>try (first |(exfalso;omega)))|((first |refine zab rfl rfl ?_ ?_);focus (first |exact le_ rfl|((repeat' refine And.intro ?_ ?_)<;>omega)))|refine zaJ rfl ?_|refine zaB rfl ?_|fail)
      all_goals exact zbl 3
  have hil' : (i : Int) < x.list.length := by omega
  rw [zkG hil] at g3
  have hlr : rdCmp (x.list.getD i j0) = rdCmp (x.list.getD (i : Int).toNat j0) := by rw [hnat]
  rw [hlr] at g3
  clear hlr hfit
  have hy := hgA (i : Int).toNat (by omega)
  clear hgA
  have hw : jw (x.list.getD (i : Int).toNat j0) ≤ 4194304 := Nat.le_trans hy.1 (by decide)
  have bad : (rdCmp (x.list.getD (i : Int).toNat j0)).2 = false → cmpsP x.list = (acc, false) := fun h => by
    rw [h, if_neg (fun h => by cases h)] at g3
    exact g3.trans (by simp)
  have more : ∀ q, rdCmp (x.list.getD (i : Int).toNat j0) = (q, true) → cmpsP x.list = ((acc ++ [q]) ++ (cmpsP (x.list.drop (i + 1))).1, (cmpsP (x.list.drop (i + 1))).2) := fun q h => by
    rw [h, if_pos rfl] at g3
    exact g3.trans (by simp)
  clear g3
  have hbad := fun h => bad (znt hy h)
  have cI := zbh (x.list.getD (i : Int).toNat j0) kId 3 true hw
  have cS := (zbh (x.list.getD (i : Int).toNat j0) kSources 4 true hw).weakS (.tu2 (zme _) (.refl _))
  have cO := (zhV (x.list.getD (i : Int).toNat j0) nsCmp hw (by decide)).weak2 (.refl _) (zqg nsCmp 5 rfl)
  by_cases hc : onlyB (x.list.getD (i : Int).toNat j0) nsCmp = true ∧ prB (x.list.getD (i : Int).toNat j0) kId 3 true = true ∧ prB (x.list.getD (i : Int).toNat j0) kSources 4 true = true
  rotate_left
  · rw [hbad (fun h => hc ⟨h.1, h.2.1, h.2.2.1⟩), if_neg (fun h => by cases h.1)]
    clear bad more hbad
    repeat' (first |refine zah (f := 28) rfl rfl Tryz.call28 rfl cI ?_|refine zah (f := 28) rfl rfl Tryz.call28 rfl cS ?_|refine zah (f := 29) rfl rfl Tryz.call29 rfl cO ?_|with_reducible (first |refine zag ?_|refine zaa ?_|refine zaf ?_|refine zad ?_|refine zaj ?_|refine zai ?_|refine zae ?_|refine zal ?_|refine zap ?_)|refine zab rfl rfl True.intro ?_|refine zau rfl rfl rfl ?_|refine zam rfl rfl rfl rfl True.intro ?_|refine zas rfl ?_|((first |refine zac rfl ?_ ?_|refine zbw rfl ?_ ?_|refine zaF rfl rfl ?_ ?_)<;>intro<;>try (first |(exfalso;omega)))|((first |refine zab rfl rfl ?_ ?_|refine zao rfl rfl ?_ ?_|refine zar rfl ?_ ?_);focus (first |omega|exact le_ rfl|((repeat' refine And.intro ?_ ?_)<;>omega)|((repeat' refine And.intro ?_ ?_)<;>first |omega|rfl|exact Nat.le_refl _)))|refine zaB rfl ?_|fail)
    all_goals first
      | exact zbl 3
      | exact absurd ⟨by assumption, by assumption, by assumption⟩ hc
      | trace_state
  obtain ⟨hc1, hc2, hc3⟩ := hc
  rw [hc1] at cO
  rw [hc2] at cI
  rw [hc3] at cS
  repeat' (first |refine zah (f := 28) rfl rfl Tryz.call28 rfl cI ?_|refine zah (f := 28) rfl rfl Tryz.call28 rfl cS ?_|refine zah (f := 29) rfl rfl Tryz.call29 rfl cO ?_|with_reducible (first |refine zag ?_|refine zaa ?_|refine zaf ?_|refine zad ?_|refine zai ?_|refine zae ?_)|refine zab rfl rfl True.intro ?_|refine zam rfl rfl rfl rfl True.intro ?_|refine zak rfl ?_|((first |refine zac rfl ?_ ?_)<;>intro<;>try (first |(exfalso;omega)))|((first |refine zab rfl rfl ?_ ?_|refine zao rfl rfl ?_ ?_|refine zar rfl ?_ ?_);focus (first |omega|exact le_ rfl|((repeat' refine And.intro ?_ ?_)<;>omega)|((repeat' refine And.intro ?_ ?_)<;>first |omega|rfl|exact Nat.le_refl _)))|fail)
  clear cI cO cS
  refine T.loop hL (fun z : Nat => [(4, .pv 4 0), (7, .gs 107 5 acc.length (cmpF acc)), (8, .i .i64 i), (9, .pv 9 0), (12, .pv 12 0), (14, .pv 14 0), (15, .i .i64 z)])
    (fun z => [(4, .var (jQ x)), (9, .var (jP (x.list.getD (i : Int).toNat j0))), (12, .var (jQ (getJ (x.list.getD (i : Int).toNat j0) kSources).1)), (14, .var [.s (getJ (x.list.getD (i : Int).toNat j0) kId).1.text, .nilS, .i .i64 (vN (x.list.getD (i : Int).toNat j0) 0 z), .i .i64 (vN (x.list.getD (i : Int).toNat j0) 1 z), .i .i64 (vN (x.list.getD (i : Int).toNat j0) 2 z)]), (107, .row 27 5 acc.length)])
    (fun z => z ≤ 3 ∧ ∀ j, j < z → nmP (x.list.getD (i : Int).toNat j0) (keyN j)) (fun z => 3 - z) 0 ⟨Nat.zero_le _, fun j h => absurd h (Nat.not_lt_zero _)⟩
    ⟨⟨rfl, rfl, rfl, rfl, rfl, rfl, rfl, trivial⟩, ⟨rfl, rfl, rfl, rfl, rfl, trivial⟩, rfl, by rw [hX]; simp⟩ ?_
  rintro z ⟨u1, u2⟩
  try dsimp only at u1 u2 ⊢
  have c3 : ∀ j, Ctr Tryz.prog 28 [.ag (jP (x.list.getD (i : Int).toNat j0)), .s (keyN j), .i .i64 2, .b true] (.tu [.ag (jP (getJ (x.list.getD (i : Int).toNat j0) (keyN j)).1), .b (prB (x.list.getD (i : Int).toNat j0) (keyN j) 2 true)]) := fun j => zbh (x.list.getD (i : Int).toNat j0) (keyN j) 2 true hw
  have c4 : ∀ j, Ctr Tryz.prog 30 [dcD (getJ (x.list.getD (i : Int).toNat j0) (keyN j)).1.neg (getJ (x.list.getD (i : Int).toNat j0) (keyN j)).1.dig (getJ (x.list.getD (i : Int).toNat j0) (keyN j)).1.exp] (.tu [.i .i64 (whJ (getJ (x.list.getD (i : Int).toNat j0) (keyN j)).1).1, .b (whJ (getJ (x.list.getD (i : Int).toNat j0) (keyN j)).1).2]) := fun j => zpL _ _ _ (Nat.le_trans (zbS (zdu hy (keyN j)).2).2.1.2 (by decide))
  by_cases hz : z < 3
  · have c3 := c3 z
    have c4 := c4 z
    by_cases hn : nmP (x.list.getD (i : Int).toNat j0) (keyN z)
    rotate_left
    · have hnc : ¬ cmP (x.list.getD (i : Int).toNat j0) := fun h => by
        obtain ⟨_, _, _, m1, m2, m3⟩ := h
        obtain rfl | rfl | rfl : z = 0 ∨ z = 1 ∨ z = 2 := by omega
        · exact hn m1
        · exact hn m2
        · exact hn m3
      rw [hbad hnc, if_neg (fun h => by cases h.1)]
      clear bad more hbad hnc u2
      unfold nmP at hn
      obtain rfl | rfl | rfl : z = 0 ∨ z = 1 ∨ z = 2 := by omega
      all_goals
        repeat' (first |refine zah (f := 28) rfl rfl Tryz.call28 rfl c3 ?_|refine zah (f := 30) rfl rfl Tryz.call30 rfl c4 ?_|with_reducible (first |refine zag ?_|refine zaa ?_|refine zaf ?_|refine zad ?_|refine zaj ?_|refine zai ?_|refine zae ?_|refine zaq ?_|refine zal ?_|refine zap ?_|refine zaD ?_)|refine zab rfl rfl True.intro ?_|refine zau rfl rfl rfl ?_|refine zam rfl rfl rfl rfl True.intro ?_|refine zas rfl ?_|refine zak rfl ?_|((first |refine zbw rfl ?_ ?_|refine zaF rfl rfl ?_ ?_)<;>intro)|((first |refine zab rfl rfl ?_ ?_|refine zao rfl rfl ?_ ?_|refine zar rfl ?_ ?_);focus (first |omega|exact le_ rfl|((repeat' refine And.intro ?_ ?_)<;>omega)|((repeat' refine And.intro ?_ ?_)<;>first |omega|rfl|exact Nat.le_refl _|exact le_ rfl)))|with_reducible refine ⟨by kernel_rfl, ?_⟩|refine zaB rfl ?_|fail)
      all_goals first
        | exact zbl 3
        | exact absurd ⟨by assumption, by assumption⟩ hn
        | trace_state
    · have u3 : ∀ j, j < z + 1 → nmP (x.list.getD (i : Int).toNat j0) (keyN j) := fun j hj => by
        by_cases q : j = z
        · rw [q]; exact hn
        · exact u2 j (by omega)
      rw [hn.1] at c3
      rw [hn.2] at c4
      clear bad more hbad u2 hn
      obtain rfl | rfl | rfl : z = 0 ∨ z = 1 ∨ z = 2 := by omega
      · skip
        repeat' (first |refine zah (f := 28) rfl rfl Tryz.call28 rfl c3 ?_|refine zah (f := 30) rfl rfl Tryz.call30 rfl c4 ?_|with_reducible (first |refine zag ?_|refine zaa ?_|refine zaf ?_|refine zad ?_|refine zai ?_|refine zae ?_|refine zaq ?_|refine zaD ?_)|refine zab rfl rfl True.intro ?_|refine zam rfl rfl rfl rfl True.intro ?_|refine zas rfl ?_|refine zak rfl ?_|((first |refine zab rfl rfl ?_ ?_|refine zao rfl rfl ?_ ?_|refine zar rfl ?_ ?_);focus (first |omega|exact le_ rfl|((repeat' refine And.intro ?_ ?_)<;>omega)|((repeat' refine And.intro ?_ ?_)<;>first |omega|rfl|exact Nat.le_refl _|exact le_ rfl)))|with_reducible refine ⟨by kernel_rfl, ?_⟩|fail)
        all_goals exact ⟨1, ⟨by omega, u3⟩, by omega, ⟨rfl, rfl, rfl, rfl, rfl, rfl, rfl, trivial⟩, ⟨rfl, rfl, rfl, rfl, rfl, trivial⟩, rfl, by rw [hX]; simp⟩
      · skip
        repeat' (first |refine zah (f := 28) rfl rfl Tryz.call28 rfl c3 ?_|refine zah (f := 30) rfl rfl Tryz.call30 rfl c4 ?_|with_reducible (first |refine zag ?_|refine zaa ?_|refine zaf ?_|refine zad ?_|refine zai ?_|refine zae ?_|refine zaq ?_|refine zaD ?_)|refine zab rfl rfl True.intro ?_|refine zam rfl rfl rfl rfl True.intro ?_|refine zas rfl ?_|refine zak rfl ?_|((first |refine zab rfl rfl ?_ ?_|refine zao rfl rfl ?_ ?_|refine zar rfl ?_ ?_);focus (first |omega|exact le_ rfl|((repeat' refine And.intro ?_ ?_)<;>omega)|((repeat' refine And.intro ?_ ?_)<;>first |omega|rfl|exact Nat.le_refl _|exact le_ rfl)))|with_reducible refine ⟨by kernel_rfl, ?_⟩|fail)
        all_goals exact ⟨2, ⟨by omega, u3⟩, by omega, ⟨rfl, rfl, rfl, rfl, rfl, rfl, rfl, trivial⟩, ⟨rfl, rfl, rfl, rfl, rfl, trivial⟩, rfl, by rw [hX]; simp⟩
      · skip
        repeat' (first |refine zah (f := 28) rfl rfl Tryz.call28 rfl c3 ?_|refine zah (f := 30) rfl rfl Tryz.call30 rfl c4 ?_|with_reducible (first |refine zag ?_|refine zaa ?_|refine zaf ?_|refine zad ?_|refine zai ?_|refine zae ?_|refine zaq ?_|refine zaD ?_)|refine zab rfl rfl True.intro ?_|refine zam rfl rfl rfl rfl True.intro ?_|refine zas rfl ?_|refine zak rfl ?_|((first |refine zab rfl rfl ?_ ?_|refine zao rfl rfl ?_ ?_|refine zar rfl ?_ ?_);focus (first |omega|exact le_ rfl|((repeat' refine And.intro ?_ ?_)<;>omega)|((repeat' refine And.intro ?_ ?_)<;>first |omega|rfl|exact Nat.le_refl _)))|with_reducible refine ⟨by kernel_rfl, ?_⟩|fail)
        all_goals exact ⟨3, ⟨by omega, u3⟩, by omega, ⟨rfl, rfl, rfl, rfl, rfl, rfl, rfl, trivial⟩, ⟨rfl, rfl, rfl, rfl, rfl, trivial⟩, rfl, by rw [hX]; simp⟩
  obtain rfl : z = 3 := by omega
  have hcm : cmP (x.list.getD (i : Int).toNat j0) := ⟨hc1, hc2, hc3, u2 0 (by omega), u2 1 (by omega), u2 2 (by omega)⟩
  have ht := zoZ hy hcm
  clear hbad c3 c4 u2 hcm hc1 hc2 hc3
  have hgS := zdu hy kSources
  have hLen := zct hgS
  have hgB : ∀ m : Nat, m < (getJ (x.list.getD (i : Int).toNat j0) kSources).1.list.length → goodJ ((getJ (x.list.getD (i : Int).toNat j0) kSources).1.list.getD m j0) := fun m hm => zeA hgS hm
  repeat' (first |refine T.adoptV 14 1 105 45 9 _ (srcF []) rfl rfl rfl ?_|with_reducible (first |refine zag ?_|refine zaa ?_|refine zaf ?_|refine zad ?_|refine zaz ?_|refine zae ?_|refine zaA ?_)|refine zab rfl rfl True.intro ?_|refine zak rfl ?_|refine zaJ rfl ?_|fail)
  refine T.loop hL (fun z : Nat × List SrcR => [(4, .pv 4 0), (7, .gs 107 5 acc.length (cmpF acc)), (8, .i .i64 i), (12, .pv 12 0), (14, .pv 14 0), (20, .i .i64 z.1)])
    (fun z => [(4, .var (jQ x)), (12, .var (jQ (getJ (x.list.getD (i : Int).toNat j0) kSources).1)), (14, .var [.s (getJ (x.list.getD (i : Int).toNat j0) kId).1.text, .gs 105 9 z.2.length (srcF z.2), .i .i64 (vN (x.list.getD (i : Int).toNat j0) 0 3), .i .i64 (vN (x.list.getD (i : Int).toNat j0) 1 3), .i .i64 (vN (x.list.getD (i : Int).toNat j0) 2 3)]), (105, .row 45 9 z.2.length), (107, .row 27 5 acc.length)])
    (fun z => z.1 ≤ (getJ (x.list.getD (i : Int).toNat j0) kSources).1.list.length ∧ z.2.length = z.1 ∧ srcsP (getJ (x.list.getD (i : Int).toNat j0) kSources).1.list = (z.2 ++ (srcsP ((getJ (x.list.getD (i : Int).toNat j0) kSources).1.list.drop z.1)).1, (srcsP ((getJ (x.list.getD (i : Int).toNat j0) kSources).1.list.drop z.1)).2)) (fun z => (getJ (x.list.getD (i : Int).toNat j0) kSources).1.list.length - z.1) (0, []) ⟨Nat.zero_le _, rfl, by simp⟩
    ⟨⟨rfl, rfl, rfl, rfl, rfl, rfl, trivial⟩, ⟨rfl, rfl, rfl, rfl, rfl, trivial⟩, rfl, by rw [hX]; simp⟩ ?_
  rintro ⟨m, accS⟩ ⟨d1, d2, d3⟩
  dsimp only at d1 d2 d3 ⊢
  have mnat : (m : Int).toNat = m := Int.toNat_natCast m
  by_cases hml : m < (getJ (x.list.getD (i : Int).toNat j0) kSources).1.list.length
  · have hml' : (m : Int) < (getJ (x.list.getD (i : Int).toNat j0) kSources).1.list.length := by omega
    rw [zkz hml] at d3
    have hge := hgB (m : Int).toNat (by omega)
    have cR := znn ((getJ (x.list.getD (i : Int).toNat j0) kSources).1.list.getD (m : Int).toNat j0) hge
    have hre := rs_eq hge
    have hlr : rdSrc ((getJ (x.list.getD (i : Int).toNat j0) kSources).1.list.getD m j0) = rdSrc ((getJ (x.list.getD (i : Int).toNat j0) kSources).1.list.getD (m : Int).toNat j0) := by rw [mnat]
    rw [hlr] at d3
    clear hlr hgB hge
    generalize rdSrc ((getJ (x.list.getD (i : Int).toNat j0) kSources).1.list.getD (m : Int).toNat j0) = r at d3 hre
    generalize rsD ((getJ (x.list.getD (i : Int).toNat j0) kSources).1.list.getD (m : Int).toNat j0) = r' at cR hre
    obtain ⟨s, ok⟩ := r
    obtain ⟨s', ok'⟩ := r'
    obtain ⟨e1, e2⟩ := hre
    replace e1 : ok' = ok := e1
    subst e1
    replace cR : Ctr Tryz.prog 31 [.ag (jP ((getJ (x.list.getD (i : Int).toNat j0) kSources).1.list.getD (m : Int).toNat j0))] (.tu [.ag (srcP s'), .b ok']) := cR
    cases ok' with
    | false =>
      rw [if_neg (fun h => by cases h)] at d3
      rw [bad (by rw [ht, d3]), if_neg (fun h => by cases h.1)]
      clear bad more ht d3
      repeat' (first |refine zah (f := 31) rfl rfl Tryz.call31 rfl cR ?_|with_reducible (first |refine zag ?_|refine zaa ?_|refine zaf ?_|refine zad ?_|refine zaj ?_|refine zai ?_|refine zae ?_|refine zal ?_|refine zap ?_)|refine zab rfl rfl True.intro ?_|refine zas rfl ?_|((first |refine zac rfl ?_ ?_)<;>intro<;>try (first |(exfalso;omega)))|((first |refine zab rfl rfl ?_ ?_|refine zao rfl rfl ?_ ?_|refine zar rfl ?_ ?_);focus (first |omega|exact le_ rfl|((repeat' refine And.intro ?_ ?_)<;>omega)|((repeat' refine And.intro ?_ ?_)<;>first |rfl|exact Nat.le_refl _)))|refine zaB rfl ?_|fail)
      all_goals exact zbl 3
    | true =>
      obtain rfl : s' = s := e2 rfl
      rw [if_pos rfl] at d3
      replace d3 := d3.trans (show _ = ((accS ++ [s']) ++ (srcsP ((getJ (x.list.getD (i : Int).toNat j0) kSources).1.list.drop (m + 1))).1, (srcsP ((getJ (x.list.getD (i : Int).toNat j0) kSources).1.list.drop (m + 1))).2) by simp)
      have e := zkw accS s' (chunk 9 (srcP s')) rfl
      have d4 : (accS ++ [s']).length = accS.length + 1 := by simp
      clear bad more ht e2
      repeat' (first |refine zah (f := 31) rfl rfl Tryz.call31 rfl cR ?_|with_reducible (first |refine zag ?_|refine zaa ?_|refine zaf ?_|refine zad ?_|refine zai ?_|refine zae ?_|refine zaq ?_)|refine zab rfl rfl True.intro ?_|refine zak rfl ?_|((first |refine zac rfl ?_ ?_)<;>intro<;>try (first |(exfalso;omega)))|((first |refine zab rfl rfl ?_ ?_|refine zao rfl rfl ?_ ?_|refine zar rfl ?_ ?_);focus (first |omega|exact le_ rfl|((repeat' refine And.intro ?_ ?_)<;>omega)|((repeat' refine And.intro ?_ ?_)<;>first |omega|rfl|exact Nat.le_refl _|exact le_ rfl)))|fail)
      all_goals exact ⟨(m + 1, accS ++ [s']), ⟨by dsimp only; omega, by dsimp only; omega, d3⟩, by dsimp only; omega, ⟨rfl, rfl, rfl, rfl, rfl, rfl, trivial⟩, ⟨rfl, rfl, by rw [d4, ← e]; rfl, by rw [d4]; rfl, rfl, trivial⟩, rfl, by rw [hX]; simp⟩
  have hml' : ¬ (m : Int) < (getJ (x.list.getD (i : Int).toNat j0) kSources).1.list.length := by omega
  have d5 : srcsP (getJ (x.list.getD (i : Int).toNat j0) kSources).1.list = (accS, true) := by
    rw [d3, List.drop_eq_nil_of_le (by omega)]
    show (accS ++ [], true) = _
    rw [List.append_nil]
  rw [d5] at ht
  have g5 := more _ ht
  have e := zkF acc ⟨(getJ (x.list.getD (i : Int).toNat j0) kId).1.text, accS, vN (x.list.getD (i : Int).toNat j0) 0 3, vN (x.list.getD (i : Int).toNat j0) 1 3, vN (x.list.getD (i : Int).toNat j0) 2 3⟩ (chunk 5 (cmpP ⟨(getJ (x.list.getD (i : Int).toNat j0) kId).1.text, accS, vN (x.list.getD (i : Int).toNat j0) 0 3, vN (x.list.getD (i : Int).toNat j0) 1 3, vN (x.list.getD (i : Int).toNat j0) 2 3⟩)) rfl
  have g4 : (acc ++ [(⟨(getJ (x.list.getD (i : Int).toNat j0) kId).1.text, accS, vN (x.list.getD (i : Int).toNat j0) 0 3, vN (x.list.getD (i : Int).toNat j0) 1 3, vN (x.list.getD (i : Int).toNat j0) 2 3⟩ : CmpR)]).length = acc.length + 1 := by simp
  clear bad more ht d3 d5 hgB
  repeat' (first |refine zcV (t := 132) rfl rfl (le_ rfl) ?_|with_reducible (first |refine zag ?_|refine zaa ?_|refine zaf ?_|refine zad ?_|refine zaz ?_|refine zaq ?_|refine zaA ?_)|refine zab rfl rfl True.intro ?_|((first |refine zac rfl ?_ ?_)<;>intro<;>try (first |(exfalso;omega)))|((first |refine zab rfl rfl ?_ ?_|refine zao rfl rfl ?_ ?_);focus (first |omega|exact le_ rfl|((repeat' refine And.intro ?_ ?_)<;>omega)|((repeat' refine And.intro ?_ ?_)<;>first |omega|rfl)))|refine zaJ rfl ?_|fail)
  all_goals exact ⟨(i + 1, acc ++ [⟨(getJ (x.list.getD (i : Int).toNat j0) kId).1.text, accS, vN (x.list.getD (i : Int).toNat j0) 0 3, vN (x.list.getD (i : Int).toNat j0) 1 3, vN (x.list.getD (i : Int).toNat j0) 2 3⟩]), ⟨by dsimp only; omega, by dsimp only; omega, g5⟩, by dsimp only; omega, ⟨rfl, by rw [g4, ← e]; rfl, rfl, trivial⟩, ⟨rfl, by rw [g4]; rfl, trivial⟩, rfl, by rw [hX]; simp⟩

theorem zng (e : Int) : Ctr Tryz.prog 15 [.i .i64 e] (.i .i64 e) := by
  refine zay Tryz.func15 rfl Tryz.ntmps15 Tryz.results15 rfl rfl fun X hL hX => ?_
  repeat' (first |with_reducible (first |refine zag ?_|refine zaa ?_|refine zaf ?_|refine zad ?_|refine zaj ?_)|refine zab rfl rfl True.intro ?_|refine zaw rfl ?_|fail)
  all_goals rfl
theorem zlG {s : Txt} (hs : s.length ≤ 200000) : smallL (confP s).1 := by
  have hg := zeP s hs
  have h0 : smallL [] := ⟨Nat.zero_le _, fun i => by rw [getNil]; exact zeB fitC0⟩
  unfold confP
  split
  · exact h0
  · unfold confV
    split
    · exact h0
    · split
      · have hfit := zec (zcd hg)
        have hlen := zio (jparse s).1.list
        have h2 := zct hg
        have hf2 := zbR (p := fun s => fitC s ∧ bigC s) hfit ⟨fitC0, bigC0⟩
        exact ⟨by dsimp only; omega, fun i => zeB (hf2 i).1⟩
      · exact h0
set_option maxRecDepth 100000 in
set_option maxHeartbeats 4000000 in
theorem zmv (s : Txt) (hs : s.length ≤ 4194304) : Ctr Tryz.prog 4 [.s s] (.b true) := by
  have cl := znG
  by_cases h : 1500 < s.length
  · have h' : (s.length : Int) > 1500 := by omega
    refine zay Tryz.func4 rfl Tryz.ntmps4 Tryz.results4 rfl rfl fun X hL hX => ?_
    repeat' (first |refine zah (f := 7) rfl rfl Tryz.call7 rfl cl ?_|with_reducible (first |refine zag ?_|refine zaa ?_|refine zaf ?_|refine zad ?_|refine zaj ?_|refine zal ?_)|refine zab rfl rfl True.intro ?_|((first |refine zac rfl ?_ ?_)<;>intro<;>try (first |(exfalso;omega)))|refine zaw rfl ?_|fail)
    all_goals rfl
  have h' : ¬ (s.length : Int) > 1500 := by omega
  have c1 := zmJ s (by omega)
  have c2 := zoD s (by omega)
  have hsm := zlG (s := s) (by omega)
  generalize confP s = r at c1 c2 hsm
  obtain ⟨l, e⟩ := r
  replace c1 : Ctr Tryz.prog 13 [.s s] (.tu [.sl 5 l.length (cmpF l), .i .i64 e]) := c1
  replace c2 : Ctr Tryz.prog 14 [.s s] (.tu [.sl 5 l.length (cmpF l), .i .i64 e]) := c2
  have c3 := zmu l l hsm hsm
  rw [decide_eq_true rfl] at c3
  have c4 := zng e
  refine zay Tryz.func4 rfl Tryz.ntmps4 Tryz.results4 rfl rfl fun X hL hX => ?_
  repeat' (first |refine zah (f := 13) rfl rfl Tryz.call13 rfl c1 ?_|refine zah (f := 14) rfl rfl Tryz.call14 rfl c2 ?_|refine zah (f := 9) rfl rfl Tryz.call9 rfl c3 ?_|refine zaM (f := 15) rfl rfl rfl rfl Tryz.call15 rfl c4 ?_|refine zaM (f := 7) rfl rfl rfl rfl Tryz.call7 rfl cl ?_|with_reducible (first |refine zag ?_|refine zaa ?_|refine zaf ?_|refine zad ?_|refine zaj ?_|refine zai ?_)|refine zab rfl rfl True.intro ?_|refine zam rfl rfl rfl rfl True.intro ?_|((first |refine zac rfl ?_ ?_|refine zan rfl rfl ?_ ?_)<;>intro<;>try (first |(exfalso;omega)))|refine zaw rfl ?_|fail)
  all_goals first
    | rfl
    | (exfalso; rename_i q; exact q rfl)
end Go.Proofs.YtcajofhafpkbdaaGreatDoor.Flow

namespace Go.Proofs.YtcajofhafpkbdaaGreatDoor.Flow
open Go.ChangeShapes Go.WideShapes Go.ChangeAt Go.RowKit
set_option maxRecDepth 100000
section
variable {H : Type}
mutual
def flatD : DataW H → List Value
  | .lit (.int k n) => [.int k n]
  | .lit (.bool b) => [.bool b]
  | .lit (.string l) => [.string ⟨l.toArray⟩]
  | .agg ps => flatDs ps
  | _ => []
def flatDs : List (DataW H) → List Value
  | [] => []
  | d :: r => flatD d ++ flatDs r
end
end
def Reads (t : TypeId) (z : Nat) : Prop :=
  ∀ (W : World) held fuel cs x, DataW.trod (fun _ => ()) Tryz.prog W 0 (fun _ => true) held fuel t cs = some x → cs.length = z ∧ cs = flatD x.1
theorem zel {t : TypeId} {k : IntKind} (ht : Tryz.prog.underlying t = some (.int k)) : Reads t 1 := fun W held fuel cs x h => by
  obtain ⟨n, rfl, rfl, _⟩ := DataW.trod_int ht h
  exact ⟨rfl, by simp [flatD]⟩
theorem zdM {t e z n m : Nat} (ht : Tryz.prog.underlying t = some (.array n e)) (hc : Tryz.prog.cellsOf e = z) (hm : Tryz.prog.cellsOf t = m) (hnm : n * z = m) (hG : Reads e z) : Reads t m := fun W held fuel cs x h => by
  obtain ⟨xs, k, rfl, rfl, hlen, hn, hf⟩ := DataW.trod_array ht h
  rw [hm] at hlen
  rw [hc] at hf
  refine ⟨hlen, ?_⟩
  have key : ∀ (n' : Nat) (ys : List (DataW Unit × List MemPlace)) (cs : List Value), ys.length = n' → cs.length = n' * z → (∀ i, i < n' → DataW.trod (fun _ => ()) Tryz.prog W 0 (fun _ => true) held k e ((cs.drop (i * z)).take z) = ys[i]?) →
      cs = flatDs (ys.map (·.1)) := by
    intro n'
    induction n' with
    | zero =>
      intro ys cs hy hcs _
      obtain rfl : ys = [] := List.length_eq_zero_iff.1 hy
      have : cs = [] := List.length_eq_zero_iff.1 (by omega)
      rw [this]
      simp [flatDs]
    | succ n' ih =>
      intro ys cs hy hcs hf
      match ys, hy with
      | y :: ys, hy =>
        have h0 := hf 0 (by omega)
        obtain ⟨k1, k2⟩ := hG _ _ _ _ _ h0
        rw [Nat.add_mul, Nat.one_mul] at hcs
        have h1 := ih ys (cs.drop z) (by simpa using hy) (by rw [List.length_drop]; omega) (fun i hi => by
          have := hf (i + 1) (by omega)
          rw [List.drop_drop]
          rwa [show z + i * z = (i + 1) * z by rw [Nat.add_mul]; omega])
        simp only [List.map_cons, flatDs]
        rw [← h1, ← k2]
        simp
  have := key n xs cs hn (by omega) hf
  rw [this]
  simp [flatD]
theorem zgT {t z1 z2 m : Nat} {fs : Array Field} {f1 f2 : Field} (ht : Tryz.prog.underlying t = some (.struct fs)) (hl : fs = #[f1, f2]) (hm : Tryz.prog.cellsOf t = m) (o1 : f1.offset = 0) (o2 : f2.offset = z1)
    (c1 : Tryz.prog.cellsOf f1.type = z1) (c2 : Tryz.prog.cellsOf f2.type = z2) (hz : z1 + z2 = m) (h1 : Reads f1.type z1) (h2 : Reads f2.type z2) : Reads t m := fun W held fuel cs x h => by
  subst hl
  obtain ⟨xs, k, rfl, rfl, hlen, hn, hf⟩ := DataW.trod_struct ht h
  rw [hm] at hlen
  refine ⟨hlen, ?_⟩
  match xs, hn with
  | [a, b], _ =>
    have e1 := hf 0 f1 rfl
    have e2 := hf 1 f2 rfl
    rw [o1, c1] at e1
    rw [o2, c2] at e2
    have r1 := (h1 _ _ _ _ _ e1).2
    have r2 := (h2 _ _ _ _ _ e2).2
    simp only [List.map_cons, List.map_nil, flatD, flatDs, List.append_nil]
    rw [← r1, ← r2]
    have : (cs.drop z1).take z2 = cs.drop z1 := List.take_of_length_le (by rw [List.length_drop]; omega)
    rw [this]
    simp
theorem zhs {W : World} {name : String} {d : DataW Unit} : ∀ {laid : List (String × DataW Unit)} {ps : List MemPlace}, DataW.LaidVars Tryz.prog W laid ps → (name, d) ∈ laid →
    ∃ g t cs fuel p, Tryz.prog.globalNamed name = some g ∧ (Tryz.prog.globals[g]?).map (·.type) = some t ∧ W.var? Tryz.prog name = some cs ∧ DataW.trod (fun _ => ()) Tryz.prog W 0 (fun _ => true) false fuel t cs.toList = some (d, p)
  | [], _, _, hm => by cases hm
  | (n, e) :: r, ps, h, hm => by
    obtain ⟨g, t, cs, fuel, p, q, h1, h2, h3, h4, h5, _⟩ := h
    rcases List.mem_cons.1 hm with he | hm
    · cases he
      exact ⟨g, t, cs, fuel, p, h1, h2, h3, h4⟩
    · exact zhs h5 hm
theorem zgu {W : World} {b o : Nat} {c : Value} (h : W.cell? ⟨b, o, none⟩ = some c) : b < W.heap.size := by
  by_cases hb : b < W.heap.size
  · exact hb
  · have : W.heap[b]? = none := by simp; omega
    simp [World.cell?, this] at h
theorem zeO {W : World} {laid : List (String × DataW Unit)} {name : String} {d : DataW Unit} {g t z : Nat} {k : IntKind} {f : Nat → Int} (h : laidMet Tryz.prog laid W) (hm : (name, d) ∈ laid) (hg : Tryz.prog.globalNamed name = some g)
    (ht : (Tryz.prog.globals[g]?).map (·.type) = some t) (hr : Reads t z) (hf : flatD d = (List.range z).map fun j => .int k (f j)) : Rel (allOf W) W noRho (.rn k z f 0) (.pointer (some ⟨g, 0, none⟩)) := by
  obtain ⟨ps, hl, _⟩ := h
  obtain ⟨g', t', cs, fuel, p, h1, h2, h3, h4⟩ := zhs hl hm
  obtain rfl := Option.some.inj (hg.symm.trans h1)
  obtain rfl := Option.some.inj (ht.symm.trans h2)
  obtain ⟨h5, h6⟩ := hr _ _ _ _ _ h4
  refine .rn _ _ _ _ _ _ fun j hj => ?_
  have : W.cell? ⟨g, j, none⟩ = some (.int k (f j)) := by
    rw [World.var?_cell hg h3 j]
    have e : cs[j]? = cs.toList[j]? := by simp
    rw [e, h6, hf]
    simp [hj]
  exact ⟨zgu this, this⟩
theorem zck {W : World} {laid : List (String × DataW Unit)} {name : String} {d : DataW Unit} {g t z : Nat} (h : laidMet Tryz.prog laid W) (hm : (name, d) ∈ laid) (hg : Tryz.prog.globalNamed name = some g)
    (ht : (Tryz.prog.globals[g]?).map (·.type) = some t) (hr : Reads t (z + 1)) : allOf W g (z + 1) ∧ W.cell? ⟨g, z + 1, none⟩ = none := by
  obtain ⟨ps, hl, _⟩ := h
  obtain ⟨g', t', cs, fuel, p, h1, h2, h3, h4⟩ := zhs hl hm
  obtain rfl := Option.some.inj (hg.symm.trans h1)
  obtain rfl := Option.some.inj (ht.symm.trans h2)
  obtain ⟨h5, h6⟩ := hr _ _ _ _ _ h4
  have hs : cs.size = z + 1 := by simpa using h5
  have h7 : W.cell? ⟨g, 0, none⟩ = cs[0]? := World.var?_cell hg h3 0
  rw [Array.getElem?_eq_getElem (by omega)] at h7
  refine ⟨zgu h7, ?_⟩
  rw [World.var?_cell hg h3 (z + 1)]
  simp [hs]

set_option maxRecDepth 100000
abbrev seatLaid : List (String × DataW Unit) := [("math/bits.deBruijn32tab", Rows.laid_math_bits_deBruijn32tab), ("math/bits.deBruijn64tab", Rows.laid_math_bits_deBruijn64tab), ("internal/strconv.uint64pow10", Rows.laid_internal_strconv_uint64pow10), ("unicode/utf8.acceptRanges", Rows.laid_unicode_utf8_acceptRanges), ("unicode/utf8.first", Rows.laid_unicode_utf8_first)]
theorem zdN : Reads 157 256 := zdM (n := 256) (z := 1) Tryz.underlying157 (by kernel_rfl) (by kernel_rfl) rfl (zel Tryz.underlying5)
theorem zfX : Reads 160 32 := zdM (n := 16) (z := 2) Tryz.underlying160 (by kernel_rfl) (by kernel_rfl) rfl
  (zgT (z1 := 1) (z2 := 1) Tryz.underlying159 rfl (by kernel_rfl) rfl rfl (by kernel_rfl) (by kernel_rfl) rfl (zel Tryz.underlying5) (zel Tryz.underlying5))
theorem ziF : Reads 205 20 := zdM (n := 20) (z := 1) Tryz.underlying205 (by kernel_rfl) (by kernel_rfl) rfl (zel Tryz.underlying99)
theorem zjT {W : World} (h0 : laidMetH Tryz.prog seatLaid W) (hb : ∀ g, globSome g = true → ∃ m, allOf W g 0 ∧ W.cell? ⟨g, 0, none⟩ = some (.int .i64 m) := by intro g h; cases h) : GOk (allOf W) W := by
  rw [MakeChecks.laidMetH_plain _ _ _ (by kernel_rfl)] at h0
  refine ⟨fun g => ?_, fun g n hn => ?_, hb⟩
  · by_cases e0 : g = 0
    · subst e0
      exact zeO (name := "unicode/utf8.first") (d := Rows.laid_unicode_utf8_first) h0 (by simp) (by kernel_rfl) (by kernel_rfl) zdN (by kernel_rfl)
    · by_cases e1 : g = 1
      · subst e1
        exact zeO (name := "unicode/utf8.acceptRanges") (d := Rows.laid_unicode_utf8_acceptRanges) h0 (by simp) (by kernel_rfl) (by kernel_rfl) zfX (by kernel_rfl)
      · by_cases e2 : g = 3
        · subst e2
          exact zeO (name := "internal/strconv.uint64pow10") (d := Rows.laid_internal_strconv_uint64pow10) h0 (by simp) (by kernel_rfl) (by kernel_rfl) ziF (by kernel_rfl)
        · have e : glob g = .any := by
            unfold glob
            split <;> first | rfl | (exfalso; omega)
          rw [e]
          exact .any ..
  · unfold globLen at hn
    split at hn
    · cases hn
      first | exact zck (name := "unicode/utf8.first") (d := Rows.laid_unicode_utf8_first) h0 (by simp) (by kernel_rfl) (by kernel_rfl) zdN | exact zck (name := "unicode/utf8.acceptRanges") (d := Rows.laid_unicode_utf8_acceptRanges) h0 (by simp) (by kernel_rfl) (by kernel_rfl) zfX
    · cases hn
      first | exact zck (name := "unicode/utf8.acceptRanges") (d := Rows.laid_unicode_utf8_acceptRanges) h0 (by simp) (by kernel_rfl) (by kernel_rfl) zfX | exact zck (name := "unicode/utf8.first") (d := Rows.laid_unicode_utf8_first) h0 (by simp) (by kernel_rfl) (by kernel_rfl) zdN
    · cases hn
      exact zck (name := "internal/strconv.uint64pow10") (d := Rows.laid_internal_strconv_uint64pow10) h0 (by simp) (by kernel_rfl) (by kernel_rfl) ziF
    · cases hn

theorem zhb {W : World} {b o : Nat} {x : Value} (h : W.cell? ⟨b, o, none⟩ = some x) : allOf W b o := by
  show b < W.heap.size
  by_cases hb : b < W.heap.size
  · exact hb
  · simp [World.cell?, Array.getElem?_eq_none (Nat.le_of_not_lt hb)] at h
set_option maxRecDepth 100000 in
theorem zol {W : World} (h : W.ShapedOpen Tryz.prog) : ∃ m, W.cell? ⟨2, 0, none⟩ = some (.int .i64 m) :=
  Go.Proofs.cell_of_shapedOpen_int (zero := #[.int .i64 0]) (t := 3) h (of_decide_eq_true (by kernel_rfl)) (by kernel_rfl) rfl (by kernel_rfl) (by kernel_rfl) Tryz.underlying3
theorem zis {W : World} (h : W.ShapedOpen Tryz.prog) : ∀ g, globSome g = true → ∃ m, allOf W g 0 ∧ W.cell? ⟨g, 0, none⟩ = some (.int .i64 m) := fun g hg => by
  unfold globSome at hg
  split at hg
  · obtain ⟨m, hm⟩ := zol h
    exact ⟨m, zhb hm, hm⟩
  · cases hg
end Go.Proofs.YtcajofhafpkbdaaGreatDoor.Flow
