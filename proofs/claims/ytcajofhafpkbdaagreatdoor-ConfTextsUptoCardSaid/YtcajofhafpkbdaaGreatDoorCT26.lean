/- The texts G21, G22, J13, N1, G25, one behind the other. -/
import Derived.Test.YtcajofhafpkbdaaGreatDoorCT20
import Derived.Test.YtcajofhafpkbdaaGreatDoorCT21
import Derived.Test.YtcajofhafpkbdaaGreatDoorCT23
import Derived.Test.YtcajofhafpkbdaaGreatDoorCT25
namespace Go.Proofs.YtcajofhafpkbdaaGreatDoor.Flow
open Go
def rdC (x : J) (n : Nat) (bad : Bool) : List D := [.i .i64 x.kind, .b x.yes, .b x.neg, .s x.dig, .i .i64 x.exp, .s x.text, .sl 8 x.list.length (jF x.list), .sl 1 x.keys.length (txF x.keys), .i .i64 n, .b bad]
def rdO (x : J) (n : Nat) (bad : Bool) : Ow := [(60, .var (rdC x n bad))]
def gK (x : J) (k : Txt) (kd : Int) : J := if (getJ x k).1.kind = kd then (getJ x k).1 else j0
def gN (x : J) (k : Txt) (n : Nat) : Nat := if (getJ x k).2 = true then n + 1 else n
def gB (x : J) (k : Txt) (kd : Int) (must bad : Bool) : Bool := bad || (if (getJ x k).2 = true then !decide ((getJ x k).1.kind = kd) else must)
theorem zjW : Weak (.ag [.i .i64 0, .b false, .b false, .s [], .i .i64 0, .s [], .nilS, .nilS]) (.ag (jP j0)) := by
  rw [← zlu]
  exact zcx 0 false false [] 0 []
set_option maxRecDepth 100000 in
set_option maxHeartbeats 4000000 in
theorem zdt (x : J) (k : Txt) (kd : Int) (must : Bool) (n : Nat) (bad : Bool) (hw : jw x ≤ 4194304) (hn : n ≤ 1000) :
    CtrO Tryz.prog 53 [.pv 60 0, .s k, .i .i64 kd, .b must] (rdO x n bad) (.ag (jP (gK x k kd))) (rdO x (gN x k n) (gB x k kd must bad)) := by
  have c := zqG x k hw
  unfold gK gN gB
  generalize getJ x k = r at c ⊢
  obtain ⟨y, ok⟩ := r
  replace c : Ctr Tryz.prog 84 [.ag (jP x), .s k] (.tu [.ag (jP y), .b ok]) := c
  dsimp only
  have fin : ∀ (n' : Nat) (b : Bool), n' = (if ok = true then n + 1 else n) → b = (bad || (if ok = true then !decide (y.kind = kd) else must)) → rdO x n' b = rdO x (if ok = true then n + 1 else n) (bad || (if ok = true then !decide (y.kind = kd) else must)) := fun n' b h1 h2 => by rw [h1, h2]
  by_cases hk : y.kind = kd
  · rw [if_pos hk]
    cases ok with
    | true =>
      rw [← fin (n + 1) bad rfl (by simp [hk])]
      refine zcU (ids := [60]) (ids2 := [60]) Tryz.func53 rfl Tryz.ntmps53 Tryz.results53 rfl rfl rfl (fun _ h => h) rfl rfl fun X hL hX => ?_
      repeat' (first |refine zai (f := 84) rfl rfl Tryz.call84 rfl c ?_|with_reducible (first |refine zag ?_|refine zaa ?_|refine zaf ?_|refine zad ?_|refine zaj ?_|refine zah ?_)|refine zab rfl rfl True.intro ?_|refine zat rfl rfl rfl ?_|refine zak rfl rfl rfl rfl True.intro ?_|refine zav rfl ?_|refine zal rfl ?_|((first |refine zaC rfl ?_ ?_|refine zaZ rfl rfl ?_ ?_)<;>intro<;>try (first |(exfalso;omega)))|((first |refine zab rfl rfl ?_ ?_|refine zak rfl rfl rfl rfl ?_ ?_|refine zao rfl rfl ?_ ?_|refine zaw rfl ?_ ?_);focus (first |omega|exact le_ rfl|((repeat' refine And.intro ?_ ?_)<;>omega)|((repeat' refine And.intro ?_ ?_)<;>first |rfl|exact Nat.le_refl _|exact le_ rfl)))|refine zfg rfl ?_ ?_|fail)
      all_goals first | exact .of_eq rfl | exact ⟨⟨rfl, trivial⟩⟩
    | false =>
      cases must with
      | true =>
        rw [← fin n true rfl (by simp)]
        refine zcU (ids := [60]) (ids2 := [60]) Tryz.func53 rfl Tryz.ntmps53 Tryz.results53 rfl rfl rfl (fun _ h => h) rfl rfl fun X hL hX => ?_
        repeat' (first |refine zai (f := 84) rfl rfl Tryz.call84 rfl c ?_|with_reducible (first |refine zag ?_|refine zaa ?_|refine zaf ?_|refine zad ?_|refine zaj ?_|refine zah ?_)|refine zab rfl rfl True.intro ?_|refine zat rfl rfl rfl ?_|refine zak rfl rfl rfl rfl True.intro ?_|refine zav rfl ?_|refine zal rfl ?_|((first |refine zaC rfl ?_ ?_)<;>intro<;>try (first |(exfalso;omega)))|((first |refine zab rfl rfl ?_ ?_|refine zao rfl rfl ?_ ?_|refine zaw rfl ?_ ?_);focus (first |exact le_ rfl|((repeat' refine And.intro ?_ ?_)<;>omega)|((repeat' refine And.intro ?_ ?_)<;>first |rfl|exact Nat.le_refl _)))|refine zfg rfl ?_ ?_|fail)
        all_goals first | exact .of_eq rfl | exact ⟨⟨rfl, trivial⟩⟩
      | false =>
        rw [← fin n bad rfl (by simp)]
        refine zcU (ids := [60]) (ids2 := [60]) Tryz.func53 rfl Tryz.ntmps53 Tryz.results53 rfl rfl rfl (fun _ h => h) rfl rfl fun X hL hX => ?_
        repeat' (first |refine zai (f := 84) rfl rfl Tryz.call84 rfl c ?_|with_reducible (first |refine zag ?_|refine zaa ?_|refine zaf ?_|refine zad ?_|refine zaj ?_|refine zah ?_)|refine zab rfl rfl True.intro ?_|refine zat rfl rfl rfl ?_|refine zak rfl rfl rfl rfl True.intro ?_|refine zal rfl ?_|((first |refine zaC rfl ?_ ?_)<;>intro<;>try (first |(exfalso;omega)))|((first |refine zab rfl rfl ?_ ?_|refine zao rfl rfl ?_ ?_|refine zaw rfl ?_ ?_);focus (first |exact le_ rfl|((repeat' refine And.intro ?_ ?_)<;>omega)|((repeat' refine And.intro ?_ ?_)<;>first |rfl|exact Nat.le_refl _)))|refine zfg rfl ?_ ?_|fail)
        all_goals first | exact .of_eq rfl | exact ⟨⟨rfl, trivial⟩⟩
  · rw [if_neg hk]
    cases ok with
    | true =>
      rw [← fin (n + 1) true rfl (by simp [hk])]
      refine zcU (ids := [60]) (ids2 := [60]) Tryz.func53 rfl Tryz.ntmps53 Tryz.results53 rfl rfl rfl (fun _ h => h) rfl rfl fun X hL hX => ?_
      repeat' (first |refine zai (f := 84) rfl rfl Tryz.call84 rfl c ?_|with_reducible (first |refine zag ?_|refine zaa ?_|refine zaf ?_|refine zad ?_|refine zaj ?_|refine zam ?_)|refine zab rfl rfl True.intro ?_|refine zat rfl rfl rfl ?_|refine zdO rfl rfl rfl ?_|refine zak rfl rfl rfl rfl True.intro ?_|refine zav rfl ?_|((first |refine zaC rfl ?_ ?_|refine zaZ rfl rfl ?_ ?_)<;>intro<;>try (first |(exfalso;omega)))|((first |refine zab rfl rfl ?_ ?_|refine zak rfl rfl rfl rfl ?_ ?_|refine zao rfl rfl ?_ ?_|refine zaw rfl ?_ ?_);focus (first |omega|exact le_ rfl|((repeat' refine And.intro ?_ ?_)<;>omega)|((repeat' refine And.intro ?_ ?_)<;>first |rfl|exact Nat.le_refl _|exact le_ rfl)))|refine zfg rfl ?_ ?_|fail)
      all_goals first | exact zjW | exact ⟨⟨rfl, trivial⟩⟩
    | false =>
      cases must with
      | true =>
        rw [← fin n true rfl (by simp)]
        refine zcU (ids := [60]) (ids2 := [60]) Tryz.func53 rfl Tryz.ntmps53 Tryz.results53 rfl rfl rfl (fun _ h => h) rfl rfl fun X hL hX => ?_
        repeat' (first |refine zai (f := 84) rfl rfl Tryz.call84 rfl c ?_|with_reducible (first |refine zag ?_|refine zaa ?_|refine zaf ?_|refine zad ?_|refine zaj ?_|refine zah ?_|refine zam ?_)|refine zab rfl rfl True.intro ?_|refine zat rfl rfl rfl ?_|refine zak rfl rfl rfl rfl True.intro ?_|refine zav rfl ?_|refine zal rfl ?_|((first |refine zaC rfl ?_ ?_)<;>intro<;>try (first |(exfalso;omega)))|((first |refine zab rfl rfl ?_ ?_|refine zao rfl rfl ?_ ?_|refine zaw rfl ?_ ?_);focus (first |exact le_ rfl|((repeat' refine And.intro ?_ ?_)<;>omega)|((repeat' refine And.intro ?_ ?_)<;>first |rfl|exact Nat.le_refl _)))|refine zfg rfl ?_ ?_|fail)
        all_goals first | exact zjW | exact ⟨⟨rfl, trivial⟩⟩
      | false =>
        rw [← fin n bad rfl (by simp)]
        refine zcU (ids := [60]) (ids2 := [60]) Tryz.func53 rfl Tryz.ntmps53 Tryz.results53 rfl rfl rfl (fun _ h => h) rfl rfl fun X hL hX => ?_
        repeat' (first |refine zai (f := 84) rfl rfl Tryz.call84 rfl c ?_|with_reducible (first |refine zag ?_|refine zaa ?_|refine zaf ?_|refine zad ?_|refine zaj ?_|refine zah ?_|refine zam ?_)|refine zab rfl rfl True.intro ?_|refine zat rfl rfl rfl ?_|refine zak rfl rfl rfl rfl True.intro ?_|refine zal rfl ?_|((first |refine zaC rfl ?_ ?_)<;>intro<;>try (first |(exfalso;omega)))|((first |refine zab rfl rfl ?_ ?_|refine zao rfl rfl ?_ ?_|refine zaw rfl ?_ ?_);focus (first |exact le_ rfl|((repeat' refine And.intro ?_ ?_)<;>omega)|((repeat' refine And.intro ?_ ?_)<;>first |rfl|exact Nat.le_refl _)))|refine zfg rfl ?_ ?_|fail)
        all_goals first | exact zjW | exact ⟨⟨rfl, trivial⟩⟩

theorem zdj (x : J) (k : Txt) (must : Bool) (n : Nat) (bad : Bool) (hw : jw x ≤ 4194304) (hn : n ≤ 1000) :
    CtrO Tryz.prog 51 [.pv 60 0, .s k, .b must] (rdO x n bad) (.s (gK x k 3).text) (rdO x (gN x k n) (gB x k 3 must bad)) := by
  have c := zdt x k 3 must n bad hw hn
  generalize gK x k 3 = y at c ⊢
  generalize gN x k n = n' at c ⊢
  generalize gB x k 3 must bad = b' at c ⊢
  refine zaI (ids := [60]) Tryz.func51 rfl Tryz.ntmps51 Tryz.results51 rfl rfl rfl rfl rfl fun X hL hX => ?_
  repeat' (first |refine zaq (f := 53) 60 rfl rfl Tryz.call53 rfl rfl rfl rfl rfl c ?_|with_reducible (first |refine zag ?_|refine zaa ?_|refine zaf ?_|refine zad ?_|refine zaj ?_)|refine zab rfl rfl True.intro ?_|((first |refine zab rfl rfl ?_ ?_);focus (first |exact le_ rfl|((repeat' refine And.intro ?_ ?_)<;>omega)))|refine zbb rfl rfl ?_|fail)
  all_goals exact ⟨⟨rfl, trivial⟩⟩
theorem zhb (x : J) (k : Txt) (n : Nat) (bad : Bool) (hw : jw x ≤ 4194304) (hn : n ≤ 1000) :
    CtrO Tryz.prog 85 [.pv 60 0, .s k] (rdO x n bad) (.b (gK x k 1).yes) (rdO x (gN x k n) (gB x k 1 false bad)) := by
  have c := zdt x k 1 false n bad hw hn
  generalize gK x k 1 = y at c ⊢
  generalize gN x k n = n' at c ⊢
  generalize gB x k 1 false bad = b' at c ⊢
  refine zaI (ids := [60]) Tryz.func85 rfl Tryz.ntmps85 Tryz.results85 rfl rfl rfl rfl rfl fun X hL hX => ?_
  repeat' (first |refine zaq (f := 53) 60 rfl rfl Tryz.call53 rfl rfl rfl rfl rfl c ?_|with_reducible (first |refine zag ?_|refine zaa ?_|refine zaf ?_|refine zad ?_|refine zaj ?_)|refine zab rfl rfl True.intro ?_|((first |refine zab rfl rfl ?_ ?_);focus (first |exact le_ rfl|((repeat' refine And.intro ?_ ?_)<;>omega)))|refine zbb rfl rfl ?_|fail)
  all_goals exact ⟨⟨rfl, trivial⟩⟩
def whJ (y : J) : Int × Bool := intF y.neg y.dig y.exp
theorem zeR (x : J) (k : Txt) (n : Nat) (bad : Bool) (hw : jw x ≤ 4194304) (hn : n ≤ 1000) (hd : (gK x k 2).dig.length ≤ 1048576) :
    CtrO Tryz.prog 52 [.pv 60 0, .s k] (rdO x n bad) (.i .i64 (whJ (gK x k 2)).1) (rdO x (gN x k n) (gB x k 2 true bad || !(whJ (gK x k 2)).2)) := by
  have c := zdt x k 2 true n bad hw hn
  generalize gK x k 2 = y at c hd ⊢
  generalize gN x k n = n' at c ⊢
  generalize gB x k 2 true bad = b' at c ⊢
  have c2 := zsc y.neg y.dig y.exp hd
  unfold whJ
  generalize intF y.neg y.dig y.exp = r at c2 ⊢
  obtain ⟨m, ok⟩ := r
  replace c2 : Ctr Tryz.prog 83 [dcD y.neg y.dig y.exp] (.tu [.i .i64 m, .b ok]) := c2
  cases ok with
  | true =>
    rw [show (b' || !(m, true).2) = b' from Bool.or_false _]
    refine zaI (ids := [60]) Tryz.func52 rfl Tryz.ntmps52 Tryz.results52 rfl rfl rfl rfl rfl fun X hL hX => ?_
    repeat' (first |refine zaq (f := 53) 60 rfl rfl Tryz.call53 rfl rfl rfl rfl rfl c ?_|refine zai (f := 83) rfl rfl Tryz.call83 rfl c2 ?_|with_reducible (first |refine zag ?_|refine zaa ?_|refine zaf ?_|refine zad ?_|refine zaj ?_|refine zah ?_)|refine zab rfl rfl True.intro ?_|refine zal rfl ?_|((first |refine zab rfl rfl ?_ ?_);focus (first |exact le_ rfl|((repeat' refine And.intro ?_ ?_)<;>omega)))|refine zbb rfl rfl ?_|fail)
    all_goals exact ⟨⟨rfl, trivial⟩⟩
  | false =>
    rw [show (b' || !(m, false).2) = true from Bool.or_true _]
    refine zaI (ids := [60]) Tryz.func52 rfl Tryz.ntmps52 Tryz.results52 rfl rfl rfl rfl rfl fun X hL hX => ?_
    repeat' (first |refine zaq (f := 53) 60 rfl rfl Tryz.call53 rfl rfl rfl rfl rfl c ?_|refine zai (f := 83) rfl rfl Tryz.call83 rfl c2 ?_|with_reducible (first |refine zag ?_|refine zaa ?_|refine zaf ?_|refine zad ?_|refine zaj ?_)|refine zab rfl rfl True.intro ?_|refine zav rfl ?_|((first |refine zab rfl rfl ?_ ?_|refine zaw rfl ?_ ?_);focus (first |exact le_ rfl|((repeat' refine And.intro ?_ ?_)<;>omega)|((repeat' refine And.intro ?_ ?_)<;>first |rfl|exact Nat.le_refl _)))|refine zbb rfl rfl ?_|fail)
    all_goals exact ⟨⟨rfl, trivial⟩⟩
def strsJ (l : List J) : List Txt × Bool := if l.all (fun y => decide (y.kind = 3)) = true then (l.map J.text, true) else ([], false)
def strsD (r : List Txt × Bool) : D := .tu [.sl 1 r.1.length (txF r.1), .b r.2]
theorem zqi {l : List J} {i : Nat} (h : i < l.length) (hk : ¬ (l.getD i j0).kind = 3) : strsJ l = ([], false) := by
  unfold strsJ
  rw [if_neg]
  intro q
  rw [List.all_eq_true] at q
  have := q l[i] (List.getElem_mem h)
  rw [decide_eq_true_eq] at this
  exact hk (by rw [show l.getD i j0 = l[i] by simp [List.getD_eq_getElem?_getD, h]]; exact this)
theorem zlK {l : List J} (h : ∀ i, i < l.length → (l.getD i j0).kind = 3) : strsJ l = (l.map J.text, true) := by
  unfold strsJ
  rw [if_pos]
  rw [List.all_eq_true]
  intro y hy
  obtain ⟨i, hi, rfl⟩ := List.mem_iff_getElem.1 hy
  have := h i hi
  rw [show l.getD i j0 = l[i] by simp [List.getD_eq_getElem?_getD, hi]] at this
  exact decide_eq_true this
theorem zrq : Weak (.tu [.nilS, .b false]) (strsD ([], false)) := .tu2 (.nil 1 _) (.refl _)
set_option maxRecDepth 100000 in
set_option maxHeartbeats 4000000 in
theorem zfd (x : J) (hw : jw x ≤ 4194304) : Ctr Tryz.prog 87 [.ag (jP x)] (strsD (strsJ x.list)) := by
  refine Ctr.weak1 ?_ (zrE x)
  have hlen : x.list.length ≤ 4194304 := by
    have := zcH x.list
    have := zgJ x
    omega
  obtain ⟨kd, b, g, d, e, t, l, ks⟩ := x
  show Ctr Tryz.prog 87 [.ag [.i .i64 kd, .b b, .b g, .s d, .i .i64 e, .s t, .sl 8 l.length (jG l), .sl 1 ks.length (txF ks)]] (strsD (strsJ l))
  replace hlen : l.length ≤ 4194304 := hlen
  clear hw
  refine zaE Tryz.func87 rfl Tryz.ntmps87 Tryz.results87 rfl rfl fun X hL hX => ?_
  repeat' (first |with_reducible (first |refine zag ?_|refine zaa ?_|refine zaf ?_|refine zad ?_|refine zae ?_)|refine zab rfl rfl True.intro ?_|((first |refine zab rfl rfl ?_ ?_|refine zao rfl rfl ?_ ?_);focus (first |exact le_ rfl|((repeat' refine And.intro ?_ ?_)<;>omega)|((repeat' refine And.intro ?_ ?_)<;>first |rfl)))|fail)
  refine T.adopt 4 104 9 1 (txF []) rfl rfl ?_
  refine T.loop hL (fun i : Nat => [(4, .gs 104 1 ((l.take i).map J.text).length (txF ((l.take i).map J.text))), (8, .sl 8 l.length (jG l)), (9, .i .i64 l.length), (10, .i .i64 i)]) (fun i => [(104, .row 9 1 ((l.take i).map J.text).length)])
    (fun i => i ≤ l.length ∧ ((l.take i).map J.text).length = i ∧ ∀ j, j < i → (l.getD j j0).kind = 3) (fun i => l.length - i) 0 ⟨Nat.zero_le _, by simp, fun j h => absurd h (Nat.not_lt_zero _)⟩
    ⟨⟨rfl, rfl, rfl, rfl, trivial⟩, ⟨rfl, trivial⟩, rfl, by rw [hX]; simp⟩ ?_
  rintro i ⟨g1, g2, g3⟩
  try dsimp only at g1 g2 g3 ⊢
  have hnat : (i : Int).toNat = i := Int.toNat_natCast i
  by_cases hil : i < l.length
  rotate_left
  · have hil' : ¬ (i : Int) < l.length := by omega
    have ea : l.take i = l := List.take_of_length_le (by omega)
    rw [zlK (fun j hj => g3 j (by omega)), ea]
    repeat' (first |with_reducible (first |refine zag ?_|refine zaa ?_|refine zaf ?_|refine zad ?_|refine zaj ?_|refine zaA ?_|refine zaz ?_)|refine zab rfl rfl True.intro ?_|((first |refine zac rfl ?_ ?_)<;>intro<;>try (first |(exfalso;omega)))|refine zaO rfl ?_|refine zbp rfl ?_|fail)
    all_goals exact .of_eq rfl
  have hil' : (i : Int) < l.length := by omega
  by_cases hk : (l.getD i j0).kind = 3
  · have e := zeA (f := J.text) (d := j0) hil
    have e1 := zin ((l.take i).map J.text) (l.getD (i : Int).toNat j0).text (chunk 1 [.s (l.getD (i : Int).toNat j0).text]) rfl
    have g4 : ((l.take (i + 1)).map J.text).length = ((l.take i).map J.text).length + 1 := by rw [e, List.length_append]; rfl
    have hk' : (l.getD (i : Int).toNat j0).kind = 3 := by rw [hnat]; exact hk
    have g5 : ∀ j, j < i + 1 → (l.getD j j0).kind = 3 := fun j hj => by
      by_cases q : j = i
      · rw [q]; exact hk
      · exact g3 j (by omega)
    rw [hnat] at e1
    clear g3
    repeat' (first |with_reducible (first |refine zag ?_|refine zaa ?_|refine zaf ?_|refine zad ?_|refine zah ?_|refine zae ?_|refine zap ?_)|refine zab rfl rfl True.intro ?_|((first |refine zac rfl ?_ ?_|refine zaC rfl ?_ ?_)<;>intro<;>try (first |(exfalso;omega)))|((first |refine zab rfl rfl ?_ ?_|refine zao rfl rfl ?_ ?_|refine zaw rfl ?_ ?_);focus (first |omega|exact le_ rfl|((repeat' refine And.intro ?_ ?_)<;>omega)|((repeat' refine And.intro ?_ ?_)<;>first |omega|rfl|exact Nat.le_refl _)))|fail)
    all_goals exact ⟨i + 1, ⟨by omega, by omega, g5⟩, by omega, ⟨by rw [g4, e, ← e1]; rfl, rfl, rfl, rfl, trivial⟩, ⟨by rw [g4]; rfl, trivial⟩, rfl, by rw [hX]; simp⟩
  · rw [zqi hil hk]
    have hk' : ¬ (l.getD (i : Int).toNat j0).kind = 3 := by rw [hnat]; exact hk
    clear g3
    repeat' (first |with_reducible (first |refine zag ?_|refine zaa ?_|refine zaf ?_|refine zad ?_|refine zaj ?_|refine zah ?_|refine zae ?_|refine zam ?_|refine zar ?_)|refine zab rfl rfl True.intro ?_|((first |refine zac rfl ?_ ?_|refine zaC rfl ?_ ?_)<;>intro<;>try (first |(exfalso;omega)))|((first |refine zab rfl rfl ?_ ?_|refine zao rfl rfl ?_ ?_|refine zaw rfl ?_ ?_);focus (first |omega|exact le_ rfl|((repeat' refine And.intro ?_ ?_)<;>omega)|((repeat' refine And.intro ?_ ?_)<;>first |rfl|exact Nat.le_refl _)))|refine zbp rfl ?_|fail)
    all_goals exact zrq
theorem zjA (x : J) (k : Txt) (n : Nat) (bad : Bool) (hw : jw x ≤ 4194304) (hn : n ≤ 1000) (hy : jw (gK x k 4) ≤ 4194304) :
    CtrO Tryz.prog 86 [.pv 60 0, .s k] (rdO x n bad) (.sl 1 (strsJ (gK x k 4).list).1.length (txF (strsJ (gK x k 4).list).1)) (rdO x (gN x k n) (gB x k 4 false bad || !(strsJ (gK x k 4).list).2)) := by
  have c := zdt x k 4 false n bad hw hn
  have c2 := zfd (gK x k 4) hy
  generalize gK x k 4 = y at c c2 ⊢
  generalize gN x k n = n' at c ⊢
  generalize gB x k 4 false bad = b' at c ⊢
  generalize strsJ y.list = r at c2 ⊢
  obtain ⟨l, ok⟩ := r
  replace c2 : Ctr Tryz.prog 87 [.ag (jP y)] (.tu [.sl 1 l.length (txF l), .b ok]) := c2
  cases ok with
  | true =>
    rw [show (b' || !(l, true).2) = b' from Bool.or_false _]
    refine zaI (ids := [60]) Tryz.func86 rfl Tryz.ntmps86 Tryz.results86 rfl rfl rfl rfl rfl fun X hL hX => ?_
    repeat' (first |refine zaq (f := 53) 60 rfl rfl Tryz.call53 rfl rfl rfl rfl rfl c ?_|refine zai (f := 87) rfl rfl Tryz.call87 rfl c2 ?_|with_reducible (first |refine zag ?_|refine zaa ?_|refine zaf ?_|refine zad ?_|refine zaj ?_|refine zah ?_)|refine zab rfl rfl True.intro ?_|refine zal rfl ?_|refine zbb rfl rfl ?_|fail)
    all_goals exact ⟨⟨rfl, trivial⟩⟩
  | false =>
    rw [show (b' || !(l, false).2) = true from Bool.or_true _]
    refine zaI (ids := [60]) Tryz.func86 rfl Tryz.ntmps86 Tryz.results86 rfl rfl rfl rfl rfl fun X hL hX => ?_
    repeat' (first |refine zaq (f := 53) 60 rfl rfl Tryz.call53 rfl rfl rfl rfl rfl c ?_|refine zai (f := 87) rfl rfl Tryz.call87 rfl c2 ?_|with_reducible (first |refine zag ?_|refine zaa ?_|refine zaf ?_|refine zad ?_|refine zaj ?_)|refine zab rfl rfl True.intro ?_|refine zav rfl ?_|((first |refine zaw rfl ?_ ?_);focus (first |((repeat' refine And.intro ?_ ?_)<;>omega)|((repeat' refine And.intro ?_ ?_)<;>first |rfl|exact Nat.le_refl _)))|refine zbb rfl rfl ?_|fail)
    all_goals exact ⟨⟨rfl, trivial⟩⟩
def dnB (x : J) (n : Nat) (bad : Bool) : Bool := decide (bad = false ∧ x.kind = 5 ∧ n = x.keys.length)
set_option maxRecDepth 100000 in
set_option maxHeartbeats 4000000 in
theorem zjj (x : J) (n : Nat) (bad : Bool) (hw : jw x ≤ 4194304) : CtrO Tryz.prog 55 [.pv 60 0] (rdO x n bad) (.b (dnB x n bad)) (rdO x n bad) := by
  have hk : x.keys.length ≤ 4194304 := by
    have := zgJ x
    omega
  unfold dnB
  cases bad with
  | true =>
    rw [decide_eq_false (fun h => by cases h.1)]
    refine zaI (ids := [60]) Tryz.func55 rfl Tryz.ntmps55 Tryz.results55 rfl rfl rfl rfl rfl fun X hL hX => ?_
    repeat' (first |with_reducible (first |refine zag ?_|refine zaa ?_|refine zaf ?_|refine zad ?_|refine zaj ?_|refine zaB ?_)|refine zab rfl rfl True.intro ?_|refine zat rfl rfl rfl ?_|((first |refine zab rfl rfl ?_ ?_);focus (first |exact le_ rfl|((repeat' refine And.intro ?_ ?_)<;>omega)))|with_reducible refine ⟨by kernel_rfl, ?_⟩|refine zbb rfl ?_ ?_|fail)
    all_goals first | rfl | exact ⟨⟨rfl, trivial⟩⟩
  | false =>
    by_cases h1 : x.kind = 5
    · by_cases h2 : n = x.keys.length
      · have h2' : (n : Int) = x.keys.length := by omega
        rw [decide_eq_true ⟨rfl, h1, h2⟩]
        refine zaI (ids := [60]) Tryz.func55 rfl Tryz.ntmps55 Tryz.results55 rfl rfl rfl rfl rfl fun X hL hX => ?_
        repeat' (first |with_reducible (first |refine zag ?_|refine zaa ?_|refine zaf ?_|refine zad ?_|refine zaj ?_|refine zaB ?_)|refine zab rfl rfl True.intro ?_|refine zak rfl rfl rfl rfl True.intro ?_|((first |refine zan rfl rfl ?_ ?_|refine zaD rfl rfl ?_ ?_)<;>intro<;>try (first |(rename_i hz;exact ft_ hz)|(exfalso;omega)))|((first |refine zab rfl rfl ?_ ?_|refine zak rfl rfl rfl rfl ?_ ?_);focus (first |exact le_ rfl|((repeat' refine And.intro ?_ ?_)<;>omega)))|with_reducible refine ⟨by kernel_rfl, ?_⟩|refine zbb rfl ?_ ?_|fail)
        all_goals first | rfl | exact ⟨⟨rfl, trivial⟩⟩ | exact congrArg D.b (decide_eq_true h2')
      · have h2' : ¬ (n : Int) = x.keys.length := by omega
        rw [decide_eq_false (fun h => h2 h.2.2)]
        refine zaI (ids := [60]) Tryz.func55 rfl Tryz.ntmps55 Tryz.results55 rfl rfl rfl rfl rfl fun X hL hX => ?_
        repeat' (first |with_reducible (first |refine zag ?_|refine zaa ?_|refine zaf ?_|refine zad ?_|refine zaj ?_|refine zaB ?_)|refine zab rfl rfl True.intro ?_|refine zak rfl rfl rfl rfl True.intro ?_|((first |refine zan rfl rfl ?_ ?_|refine zaD rfl rfl ?_ ?_)<;>intro<;>try (first |(rename_i hz;exact ft_ hz)|(exfalso;omega)))|((first |refine zab rfl rfl ?_ ?_|refine zak rfl rfl rfl rfl ?_ ?_);focus (first |exact le_ rfl|((repeat' refine And.intro ?_ ?_)<;>omega)))|with_reducible refine ⟨by kernel_rfl, ?_⟩|refine zbb rfl ?_ ?_|fail)
        all_goals first | rfl | exact ⟨⟨rfl, trivial⟩⟩ | exact congrArg D.b (decide_eq_false h2')
    · rw [decide_eq_false (fun h => h1 h.2.1)]
      refine zaI (ids := [60]) Tryz.func55 rfl Tryz.ntmps55 Tryz.results55 rfl rfl rfl rfl rfl fun X hL hX => ?_
      repeat' (first |with_reducible (first |refine zag ?_|refine zaa ?_|refine zaf ?_|refine zad ?_|refine zaj ?_|refine zaB ?_)|refine zab rfl rfl True.intro ?_|refine zat rfl rfl rfl ?_|refine zak rfl rfl rfl rfl True.intro ?_|((first |refine zan rfl rfl ?_ ?_|refine zaD rfl rfl ?_ ?_)<;>intro<;>try (first |(rename_i hz;exact ft_ hz)|(exfalso;omega)))|((first |refine zab rfl rfl ?_ ?_|refine zak rfl rfl rfl rfl ?_ ?_);focus (first |exact le_ rfl|((repeat' refine And.intro ?_ ?_)<;>omega)))|with_reducible refine ⟨by kernel_rfl, ?_⟩|refine zbb rfl ?_ ?_|fail)
      all_goals first | rfl | exact ⟨⟨rfl, trivial⟩⟩

def ValW (s : List UInt8) (val : Nat → JR) : Prop := ∀ i x n, i ≤ s.length → val i = .inl (x, n) → jw x + i ≤ n
theorem zrR {s : List UInt8} {mp : Bool} {ks ks' : List (List UInt8)} {i n : Nat} (hi : i ≤ s.length) (h : jkeys s mp i ks = .inl (ks', n)) : ks'.length + i ≤ ks.length + n := by
  unfold jkeys at h
  split at h
  · cases h1 : jkey s i ks with
    | inr e => rw [h1] at h; cases h
    | inl r =>
      obtain ⟨k, m⟩ := r
      rw [h1] at h
      have := zki hi h1
      cases h
      rw [List.length_append, List.length_singleton]
      omega
  · cases h
    exact Nat.le_refl _
theorem jgo_w {s : List UInt8} {val : Nat → JR} (hv : ValOk s val) (hw : ValW s val) {mp : Bool} : ∀ (m i : Nat) (l : List J) (ks : List (List UInt8)) (x : J) (n : Nat), s.length - i ≤ m → i ≤ s.length → jgo s val mp i l ks = .inl (x, n) → jw x + i ≤ jwL l + ks.length + n := by
  intro m
  induction m with
  | zero =>
    intro i l ks x n hm hi h
    rw [zdV hv hi] at h
    cases h1 : jkeys s mp i ks with
    | inr e => rw [h1] at h; cases h
    | inl r =>
      obtain ⟨ks', i1⟩ := r
      rw [h1] at h
      have q1 := zcL hi h1
      dsimp only at h
      cases h2 : val i1 with
      | inr e => rw [h2] at h; cases h
      | inl r =>
        obtain ⟨y, i2⟩ := r
        have q2 := hv _ _ _ q1.2 h2
        omega
  | succ m ih =>
    intro i l ks x n hm hi h
    rw [zdV hv hi] at h
    cases h1 : jkeys s mp i ks with
    | inr e => rw [h1] at h; cases h
    | inl r =>
      obtain ⟨ks', i1⟩ := r
      rw [h1] at h
      have q1 := zcL hi h1
      have w1 := zrR hi h1
      dsimp only at h
      cases h2 : val i1 with
      | inr e => rw [h2] at h; cases h
      | inl r =>
        obtain ⟨y, i2⟩ := r
        rw [h2] at h
        have q2 := hv _ _ _ q1.2 h2
        have w2 := hw _ _ _ q1.2 h2
        have wa := znL l y
        dsimp only at h
        cases h3 : jpeek s i2 with
        | inr e => rw [h3] at h; cases h
        | inl i3 =>
          rw [h3] at h
          have q3 := zaV q2.2 h3
          dsimp only at h
          split at h
          · cases h
            unfold manyV
            rw [jw]
            omega
          · split at h
            · have := ih _ _ _ _ _ (by omega) (by omega) h
              omega
            · cases h
theorem zoX {s : List UInt8} {val : Nat → JR} (hv : ValOk s val) (hw : ValW s val) {mp : Bool} {i n : Nat} {x : J} (hi : i < s.length) (h : jmany s val mp i = .inl (x, n)) : jw x + i ≤ n := by
  unfold jmany at h
  cases h1 : jpeek s (i + 1) with
  | inr e => rw [h1] at h; cases h
  | inl j =>
    rw [h1] at h
    have q := zaV hi h1
    dsimp only at h
    split at h
    · cases h
      show 1 + 0 + 0 + i ≤ j + 1
      omega
    · have := jgo_w hv hw _ _ _ _ _ _ (Nat.le_refl _) (by omega) h
      have e : jwL [] = 0 := rfl
      rw [e, List.length_nil] at this
      omega
theorem ztx (s : List UInt8) : ∀ d, ValW s (jval s d) := by
  intro d
  induction d with
  | zero =>
    intro i x n hi h
    unfold jval at h
    split at h <;> cases h
  | succ d ih =>
    intro i x n hi h
    have hk := zcb s (d + 1) i x n hi h
    have lit : ∀ (k : Int) (y g : Bool) (dd : List UInt8) (e : Int) (t : List UInt8), jw (.mk k y g dd e t [] []) = 1 := fun _ _ _ _ _ _ => rfl
    unfold jval at h
    cases h1 : jpeek s i with
    | inr e => rw [h1] at h; cases h
    | inl j =>
      rw [h1] at h
      have q := zaV hi h1
      dsimp only at h
      unfold jword at h
      split at h
      · split at h <;> cases h
        have := lit 0 false false [] 0 []
        show 1 + i ≤ _
        omega
      · split at h
        · split at h <;> cases h
          show 1 + i ≤ _
          omega
        · split at h
          · split at h <;> cases h
            show 1 + i ≤ _
            omega
          · split at h
            · cases h2 : jtext s j with
              | inr e => rw [h2] at h; cases h
              | inl r =>
                rw [h2] at h
                cases h
                show 1 + i ≤ _
                omega
            · split at h
              · have := zoX (zcb s d) ih q.2.1 h
                omega
              · split at h
                · have := zoX (zcb s d) ih q.2.1 h
                  omega
                · unfold jnum at h
                  split at h
                  · cases h
                    show 1 + i ≤ _
                    omega
                  · cases h
theorem zqt (s : List UInt8) : jw (jparse s).1 ≤ s.length + 1 := by
  have j1 : jw j0 = 1 := rfl
  unfold jparse
  split
  · dsimp only
    omega
  · cases h : jval s 64 0 with
    | inr e => dsimp only; omega
    | inl r =>
      obtain ⟨x, n⟩ := r
      have h1 := ztx s 64 0 x n (Nat.zero_le _) h
      have h2 := zcb s 64 0 x n (Nat.zero_le _) h
      dsimp only
      split
      · dsimp only
        omega
      · dsimp only
        omega

theorem zhM (s : List UInt8) : ∀ (n : Nat) (i : Int) (o : List UInt8), 0 ≤ i → i ≤ s.length → (unqG s n i o).2.2 = 0 → ((unqG s n i o).1.length : Int) ≤ o.length + 4 * (s.length - i)
  | 0, i, o, _, _, h => by
    unfold unqG at h
    cases h
  | n + 1, i, o, h0, h1, h => by
    by_cases hi : i < s.length
    · by_cases c34 : at' s i = 34
      · cases hv : validL o with
        | true =>
          rw [zcu hi c34 hv]
          dsimp only
          omega
        | false =>
          rw [zfv hi c34 hv] at h
          cases h
      · by_cases c92 : at' s i = 92
        · rw [zdE hi c92] at h ⊢
          have er := zdH s (i + 1) o (by omega) (by omega)
          by_cases hz : (escP s (i + 1) o).2.2 = 0
          · rw [if_pos hz] at h ⊢
            have := zhM s n _ _ (by omega) er.2.1 h
            omega
          · rw [if_neg hz] at h
            exact absurd h hz
        · by_cases c32 : at' s i < 32
          · rw [zfw hi c34 c92 c32] at h
            cases h
          · rw [zcZ hi c34 c92 c32] at h ⊢
            have := zhM s n (i + 1) (o ++ [by8 (at' s i)]) (by omega) (by omega) h
            simp only [List.length_append, List.length_cons, List.length_nil] at this
            omega
    · rw [zfo hi] at h
      cases h
theorem zqh {s : List UInt8} {i : Int} (h : (unqF s i).2.2 = 0) : (unqF s i).1.length ≤ 4 * s.length := by
  unfold unqF at h ⊢
  by_cases hb : i < 0 ∨ s.length < i
  · rw [if_pos hb] at h
    cases h
  · rw [if_neg hb] at h ⊢
    have hm := zbu s i 0 34 (by omega) (by omega)
    by_cases hz : (mustF s i 0 34).2 = 0
    · rw [if_pos hz] at h ⊢
      have := zhM s _ _ _ (by omega) (by omega) h
      simp only [List.length_nil] at this
      omega
    · rw [if_neg hz] at h
      exact absurd h hz
theorem zjg {s t : List UInt8} {i n : Nat} (h : jtext s i = .inl (t, n)) : t.length ≤ 4 * s.length := by
  unfold jtext at h
  split at h
  · rename_i hz
    have := zqh hz
    cases h
    exact this
  · cases h
mutual
def okJ (B : Nat) : J → Prop
  | .mk k _ _ _ _ t l ks => (k = 5 → ks.length = l.length) ∧ t.length ≤ B ∧ (∀ q ∈ ks, q.length ≤ B) ∧ okJL B l
def okJL (B : Nat) : List J → Prop
  | [] => True
  | x :: r => okJ B x ∧ okJL B r
end

theorem zoE (neg : Bool) (s : List UInt8) (e : Int) : (normF neg s e).1.2.1.length ≤ 100 := by
  unfold normF
  split
  · exact Nat.zero_le _
  · split
    · exact Nat.zero_le _
    · rename_i h
      split
      · exact Nat.zero_le _
      · show (tL (tR s)).length ≤ 100
        omega
theorem zmC (pw : List UInt8 → Int) (s : List UInt8) : (parseG pw s).1.2.1.length ≤ 100 := by
  unfold parseG
  split
  · exact Nat.zero_le _
  · dsimp only
    split
    · exact zoE _ _ _
    · exact Nat.zero_le _
mutual
def okK (B : Nat) : J → Prop
  | .mk k _ _ d _ t l ks => (k = 5 → ks.length = l.length) ∧ (t.length ≤ B ∧ d.length ≤ 100) ∧ (ks.Nodup ∧ ∀ q ∈ ks, q.length ≤ B) ∧ okKL B l
def okKL (B : Nat) : List J → Prop
  | [] => True
  | x :: r => okK B x ∧ okKL B r
end
theorem zlO (B : Nat) (k : Int) (y n : Bool) (d : List UInt8) (e : Int) (t : List UInt8) (l : List J) (ks : List (List UInt8)) : okK B (.mk k y n d e t l ks) ↔ (k = 5 → ks.length = l.length) ∧ (t.length ≤ B ∧ d.length ≤ 100) ∧ (ks.Nodup ∧ ∀ q ∈ ks, q.length ≤ B) ∧ okKL B l := by rw [okK]
theorem zfA {B : Nat} {x : J} (h : okK B x) : (x.kind = 5 → x.keys.length = x.list.length) ∧ (x.text.length ≤ B ∧ x.dig.length ≤ 100) ∧ (x.keys.Nodup ∧ ∀ q ∈ x.keys, q.length ≤ B) ∧ okKL B x.list := by
  cases x
  exact (zlO ..).1 h
theorem zni {B : Nat} : ∀ {l : List J} {i : Nat}, okKL B l → i < l.length → okK B (l.getD i j0)
  | [], _, _, h => by simp at h
  | x :: r, 0, h, _ => by
    rw [okKL] at h
    exact h.1
  | x :: r, i + 1, h, hi => by
    rw [okKL] at h
    have := zni (l := r) (i := i) h.2 (by simpa using hi)
    rwa [show (x :: r).getD (i + 1) j0 = r.getD i j0 by simp]
theorem zlQ {B : Nat} {x : J} : ∀ {l : List J}, okKL B l → okK B x → okKL B (l ++ [x])
  | [], _, h => by
    rw [List.nil_append, okKL]
    exact ⟨h, by rw [okKL]; trivial⟩
  | y :: r, h, hx => by
    rw [okKL] at h
    rw [List.cons_append, okKL]
    exact ⟨h.1, zlQ h.2 hx⟩
theorem zfB (B : Nat) (k : Int) (y n : Bool) (d : List UInt8) (e : Int) (t : List UInt8) (ht : t.length ≤ B) (hd : d.length ≤ 100) : okK B (.mk k y n d e t [] []) := by
  rw [zlO]
  exact ⟨fun _ => rfl, ⟨ht, hd⟩, ⟨.nil, fun q hq => (by cases hq)⟩, by rw [okKL]; trivial⟩
theorem zpR (B : Nat) : okK B j0 := zfB B _ _ _ _ _ _ (Nat.zero_le _) (Nat.zero_le _)
theorem zrz {B : Nat} {x : J} (h : okK B x) {i : Nat} (hi : i < x.list.length) : okK B (x.list.getD i j0) := zni (zfA h).2.2.2 hi
theorem okK_get {B : Nat} {x : J} (h : okK B x) (k : List UInt8) : okK B (getJ x k).1 := by
  unfold getJ
  split
  · rename_i q
    exact zrz h (by omega)
  · exact zpR B
def ValQ (s : List UInt8) (val : Nat → JR) : Prop := ∀ i x n, i ≤ s.length → val i = .inl (x, n) → okK (4 * s.length) x
theorem zpJ {s k : List UInt8} {ks : List (List UInt8)} {i n : Nat} (h : jkey s i ks = .inl (k, n)) : k ∉ ks ∧ k.length ≤ 4 * s.length := by
  unfold jkey at h
  cases h1 : jpeek s i with
  | inr e => rw [h1] at h; cases h
  | inl j =>
    rw [h1] at h
    dsimp only at h
    split at h
    · cases h
    · cases h2 : jtext s j with
      | inr e => rw [h2] at h; cases h
      | inl r =>
        obtain ⟨k2, n2⟩ := r
        rw [h2] at h
        have q2 := zjg h2
        dsimp only at h
        split at h
        · cases h
        · rename_i hne
          cases h3 : jpeek s n2 with
          | inr e => rw [h3] at h; cases h
          | inl m =>
            rw [h3] at h
            dsimp only at h
            split at h
            · cases h
            · cases h
              exact ⟨hne, q2⟩
theorem zsC {s : List UInt8} {mp : Bool} {ks ks' : List (List UInt8)} {i n : Nat} (hk : ks.Nodup ∧ ∀ q ∈ ks, q.length ≤ 4 * s.length) (h : jkeys s mp i ks = .inl (ks', n)) : (ks'.Nodup ∧ ∀ q ∈ ks', q.length ≤ 4 * s.length) ∧ (mp = true → ks'.length = ks.length + 1) := by
  unfold jkeys at h
  cases mp with
  | false =>
    cases h
    exact ⟨hk, fun e => by cases e⟩
  | true =>
    rw [if_pos rfl] at h
    cases h1 : jkey s i ks with
    | inr e => rw [h1] at h; cases h
    | inl r =>
      obtain ⟨k, m⟩ := r
      rw [h1] at h
      have := zpJ h1
      cases h
      refine ⟨⟨List.nodup_append.2 ⟨hk.1, by simp, fun a ha b hb => by rw [List.mem_singleton.1 hb]; exact fun e => this.1 (e ▸ ha)⟩, fun q hq => ?_⟩, fun _ => by simp⟩
      rcases List.mem_append.1 hq with hq | hq
      · exact hk.2 q hq
      · rw [List.mem_singleton.1 hq]
        exact this.2
theorem zlt {B : Nat} {mp : Bool} {l : List J} {ks : List (List UInt8)} (h1 : mp = true → ks.length = l.length) (h2 : ks.Nodup ∧ ∀ q ∈ ks, q.length ≤ B) (h3 : okKL B l) : okK B (manyV mp l ks) := by
  unfold manyV
  rw [zlO]
  refine ⟨fun e => h1 ?_, ⟨Nat.zero_le _, Nat.zero_le _⟩, h2, h3⟩
  cases mp with
  | true => rfl
  | false => exact absurd e (by decide)
theorem jgo_q {s : List UInt8} {val : Nat → JR} (hv : ValOk s val) (hk : ValQ s val) {mp : Bool} : ∀ (m i : Nat) (l : List J) (ks : List (List UInt8)) (x : J) (n : Nat), s.length - i ≤ m → i ≤ s.length → okKL (4 * s.length) l → (ks.Nodup ∧ ∀ q ∈ ks, q.length ≤ 4 * s.length) → (mp = true → ks.length = l.length) →
    jgo s val mp i l ks = .inl (x, n) → okK (4 * s.length) x := by
  intro m
  induction m with
  | zero =>
    intro i l ks x n hm hi _ _ _ h
    rw [zdV hv hi] at h
    cases h1 : jkeys s mp i ks with
    | inr e => rw [h1] at h; cases h
    | inl r =>
      obtain ⟨ks', i1⟩ := r
      rw [h1] at h
      have q1 := zcL hi h1
      dsimp only at h
      cases h2 : val i1 with
      | inr e => rw [h2] at h; cases h
      | inl r =>
        obtain ⟨y, i2⟩ := r
        have q2 := hv _ _ _ q1.2 h2
        omega
  | succ m ih =>
    intro i l ks x n hm hi hl hks hkl h
    rw [zdV hv hi] at h
    cases h1 : jkeys s mp i ks with
    | inr e => rw [h1] at h; cases h
    | inl r =>
      obtain ⟨ks', i1⟩ := r
      rw [h1] at h
      have q1 := zcL hi h1
      have k1 := zsC hks h1
      dsimp only at h
      cases h2 : val i1 with
      | inr e => rw [h2] at h; cases h
      | inl r =>
        obtain ⟨y, i2⟩ := r
        rw [h2] at h
        have q2 := hv _ _ _ q1.2 h2
        have k2 := zlQ hl (hk _ _ _ q1.2 h2)
        have k3 : mp = true → ks'.length = (l ++ [y]).length := fun e => by
          rw [k1.2 e, hkl e]
          simp
        dsimp only at h
        cases h3 : jpeek s i2 with
        | inr e => rw [h3] at h; cases h
        | inl i3 =>
          rw [h3] at h
          have q3 := zaV q2.2 h3
          dsimp only at h
          split at h
          · cases h
            exact zlt k3 k1.1 k2
          · split at h
            · exact ih _ _ _ _ _ (by omega) (by omega) k2 k1.1 k3 h
            · cases h
theorem znV {s : List UInt8} {val : Nat → JR} (hv : ValOk s val) (hk : ValQ s val) {mp : Bool} {i n : Nat} {x : J} (hi : i < s.length) (h : jmany s val mp i = .inl (x, n)) : okK (4 * s.length) x := by
  unfold jmany at h
  cases h1 : jpeek s (i + 1) with
  | inr e => rw [h1] at h; cases h
  | inl j =>
    rw [h1] at h
    have q := zaV hi h1
    dsimp only at h
    split at h
    · cases h
      exact zlt (fun _ => rfl) ⟨.nil, fun q hq => by cases hq⟩ (by rw [okKL]; trivial)
    · exact jgo_q hv hk _ _ _ _ _ _ (Nat.le_refl _) (by omega) (by rw [okKL]; trivial) ⟨.nil, fun q hq => by cases hq⟩ (fun _ => rfl) h
theorem ztF (s : List UInt8) : ∀ d, ValQ s (jval s d) := by
  intro d
  induction d with
  | zero =>
    intro i x n hi h
    unfold jval at h
    split at h <;> cases h
  | succ d ih =>
    intro i x n hi h
    unfold jval at h
    cases h1 : jpeek s i with
    | inr e => rw [h1] at h; cases h
    | inl j =>
      rw [h1] at h
      have q := zaV hi h1
      dsimp only at h
      unfold jword at h
      split at h
      · split at h <;> cases h
        exact zpR _
      · split at h
        · split at h <;> cases h
          exact zfB _ _ _ _ _ _ _ (Nat.zero_le _) (Nat.zero_le _)
        · split at h
          · split at h <;> cases h
            exact zfB _ _ _ _ _ _ _ (Nat.zero_le _) (Nat.zero_le _)
          · split at h
            · cases h2 : jtext s j with
              | inr e => rw [h2] at h; cases h
              | inl r =>
                rw [h2] at h
                have := zjg h2
                cases h
                exact zfB _ _ _ _ _ _ _ this (Nat.zero_le _)
            · split at h
              · exact znV (zcb s d) ih q.2.1 h
              · split at h
                · exact znV (zcb s d) ih q.2.1 h
                · unfold jnum at h
                  split at h
                  · cases h
                    exact zfB _ _ _ _ _ _ _ (Nat.zero_le _) (zmC powP _)
                  · cases h
theorem zrr (s : List UInt8) : okK (4 * s.length) (jparse s).1 := by
  have h0 := zpR (4 * s.length)
  unfold jparse
  split
  · exact h0
  · have hk := ztF s 64
    cases h : jval s 64 0 with
    | inr e => exact h0
    | inl r =>
      obtain ⟨x, n⟩ := r
      dsimp only
      split
      · exact h0
      · exact hk _ _ _ (Nat.zero_le _) h
def goodJ (x : J) : Prop := jw x ≤ 1000000 ∧ okK 1000000 x
theorem zhK {x : J} (h : goodJ x) {i : Nat} (hi : i < x.list.length) : goodJ (x.list.getD i j0) := by
  have h1 := zof hi
  have h2 := zgJ x
  have h3 := h.1
  exact ⟨by omega, zrz h.2 hi⟩
theorem zru : goodJ j0 := ⟨by decide, zpR _⟩
theorem zpL {x : J} (h : goodJ x) (k : List UInt8) : goodJ (getJ x k).1 := by
  unfold getJ
  split
  · rename_i q
    exact zhK h (by omega)
  · exact zru
end Go.Proofs.YtcajofhafpkbdaaGreatDoor.Flow
