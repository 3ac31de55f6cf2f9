/- The texts G6, G20, G7, G8, one behind the other. -/
import Derived.Test.YtcajofhafpkbdaaGreatDoorCT8
import Derived.Test.YtcajofhafpkbdaaGreatDoorCT10
import Derived.Test.YtcajofhafpkbdaaGreatDoorCT12
namespace Go.Proofs.YtcajofhafpkbdaaGreatDoor.Flow
open Go
def txW (l : List Txt) (k : Nat) (n : Int) : Option Int := some (n + ((l.getD k []).length : Int))
def flW (l : List Fld) (k : Nat) (n : Int) : Option Int := some (n + ((l.getD k ([], [])).1.length : Int) + ((l.getD k ([], [])).2.length : Int))
def muchS (s : SrcR) (n : Int) : Option Int :=
  if 40 < (s.only ++ s.notl).length ∨ 20 < s.lays.length then none else
    match scanO (txW (s.only ++ s.notl)) (s.only ++ s.notl).length (s.only ++ s.notl).length 0 (n + 1 + s.arch.length + s.csv.length + s.key.length + s.attr.length) with
    | none => none
    | some m => match scanO (flW s.lays) s.lays.length s.lays.length 0 m with
      | none => none
      | some q => if q > 1500 then none else some q
def muchC (c : CmpR) (n : Int) : Option Int :=
  match scanO (fun k n => muchS (c.srcs.getD k s0R) n) c.srcs.length 20 0 (n + c.id.length) with
  | none => none
  | some m => if 18 < c.srcs.length then none else some m
def muchL (l : List CmpR) : Bool :=
  match scanO (fun i n => muchC (l.getD i c0R) n) l.length 8 0 0 with
  | none => true
  | some _ => decide (7 < l.length)
def bigT (t : Txt) : Prop := t.length ≤ 1048576
def bigS (s : SrcR) : Prop := bigT s.arch ∧ bigT s.csv ∧ bigT s.key ∧ bigT s.attr ∧ (∀ i, bigT (s.only.getD i [])) ∧ (∀ i, bigT (s.notl.getD i [])) ∧ ∀ i, bigT (s.lays.getD i ([], [])).1 ∧ bigT (s.lays.getD i ([], [])).2
def bigC (c : CmpR) : Prop := bigT c.id ∧ ∀ i, bigS (c.srcs.getD i s0R)
theorem zty (a b : List Txt) (f : Nat → List D) (j : Nat) (h : j < 0 + a.length + b.length) : catF (0 + a.length) (catF 0 f a.length (txF a)) b.length (txF b) j = txF (a ++ b) j := by
  unfold catF
  by_cases h1 : j < a.length
  · rw [if_pos (by omega), if_neg (by omega), if_pos (by omega), Nat.sub_zero]
    simp [txF, List.getD_eq_getElem?_getD, List.getElem?_append_left h1]
  · rw [if_neg (by omega), if_pos h]
    simp [txF, List.getD_eq_getElem?_getD, List.getElem?_append_right (show a.length ≤ j by omega)]
theorem Weak.sl_ofG {e n n' : Nat} {f g : Nat → List D} (hn : n = n') (h : ∀ i, i < n → f i = g i) (hp : ∀ i, i < n → (g i).all D.plain = true) : Weak (.sl e n f) (.sl e n' g) := by
  subst hn
  refine .sl e n f g (fun i hi => ⟨by rw [h i hi], hp i hi⟩) fun i j hi _ => ?_
  rw [h i hi]
  exact .refl _
theorem zpI (a b : List Txt) (f : Nat → List D) : Weak (D.gs 70 1 (0 + a.length + b.length) (catF (0 + a.length) (catF 0 f a.length (txF a)) b.length (txF b))).shut (.sl 1 (a ++ b).length (txF (a ++ b))) :=
  Weak.sl_ofG (by simp) (fun i hi => zty a b f i hi) fun _ _ => rfl
theorem T.shutW {P : Program} {X : Ctx} {n : Nat} {fr : Fr} {ow : Ow} {c : Code} {Q : Exit → Fr → Ow → Prop} (t : Nat) (d d' : D) (ht : getD' t fr = d) (hw : Weak d.shut d') (h : T P X n c ((t, d') :: fr) ow Q) : T P X n c fr ow Q := fun a w hr => by
  refine h a w ?_
  obtain ⟨S, r, hH, hI, hF, hd, hn, hρ⟩ := hr
  refine ⟨S, r, hH, hI, fun u => ?_, hd, hn, hρ⟩
  rw [zaF]
  simp only [updF]
  split
  · rename_i e
    have h1 := hF u
    have e1 : fF fr u = d := by rw [e]; exact ht
    rw [e1] at h1
    exact h1.shut.weak hw
  · exact hF u
theorem zsz {a b : List Txt} (ha : ∀ i, bigT (a.getD i [])) (hb : ∀ i, bigT (b.getD i [])) (i : Nat) : bigT ((a ++ b).getD i []) := by
  by_cases h : i < a.length
  · have e : (a ++ b).getD i [] = a.getD i [] := by simp [List.getD_eq_getElem?_getD, List.getElem?_append_left h]
    rw [e]; exact ha i
  · have e : (a ++ b).getD i [] = b.getD (i - a.length) [] := by simp [List.getD_eq_getElem?_getD, List.getElem?_append_right (show a.length ≤ i by omega)]
    rw [e]; exact hb _
set_option maxRecDepth 100000 in
set_option maxHeartbeats 16000000 in
theorem znf (l : List CmpR) (hl : smallL l) (hb : ∀ i, bigC (l.getD i c0R)) : Ctr Tryz.prog 6 [.sl 5 l.length (cmpF l)] (.b (muchL l)) := by
  refine zaE Tryz.func6 rfl Tryz.ntmps6 Tryz.results6 rfl rfl fun X hL hX => ?_
  obtain ⟨hl1, hl2⟩ := hl
  repeat' (first |with_reducible (first |refine zag ?_|refine zaa ?_|refine zaf ?_|refine zad ?_|refine zae ?_)|refine zab rfl rfl True.intro ?_|fail)
  refine T.loop hL (fun x : Nat × Int => [(0, .sl 5 l.length (cmpF l)), (3, .i .i64 x.2), (4, .i .i64 x.1)]) (fun _ => [])
    (fun x => x.1 ≤ 8 ∧ 0 ≤ x.2 ∧ x.2 ≤ 1500 + (x.1 : Nat) * 1048576 ∧ scanO (fun i n => muchC (l.getD i c0R) n) l.length 8 x.1 x.2 = scanO (fun i n => muchC (l.getD i c0R) n) l.length 8 0 0) (fun x => 8 - x.1) (0, 0) (by simp)
    ⟨⟨rfl, rfl, rfl, trivial⟩, trivial, rfl, by rw [hX]; simp⟩ ?_
  rintro ⟨i, n⟩ ⟨h1, h2, h3, h4⟩
  dsimp only at h1 h2 h3 h4 ⊢
  have hnat : (i : Int).toNat = i := Int.toNat_natCast i
  have fin : (i < l.length → ¬ i < 8) → D.b (decide (7 < l.length)) = D.b (muchL l) := fun x => by
    unfold muchL
    rw [← h4, zcy x]
  have stop : i < l.length → i < 8 → muchC (l.getD (i : Int).toNat c0R) n = none → D.b true = D.b (muchL l) := fun x y z => by
    rw [hnat] at z
    have e := zdM (step := fun i n => muchC (l.getD i c0R) n) (len := l.length) (B := 8) (i := i) (n := n) x y z
    unfold muchL
    rw [← h4, e]
  have more : ∀ m, i < l.length → i < 8 → muchC (l.getD (i : Int).toNat c0R) n = some m → scanO (fun i n => muchC (l.getD i c0R) n) l.length 8 (i + 1) m = scanO (fun i n => muchC (l.getD i c0R) n) l.length 8 0 0 := fun m x y z => by
    rw [hnat] at z
    rw [← h4]
    exact (zbZ (step := fun i n => muchC (l.getD i c0R) n) x y z).symm
  clear h4
  by_cases hq : i < l.length ∧ i < 8
  rotate_left
  · have fin := fin (fun a b => hq ⟨a, b⟩)
    clear stop more
    have hd : decide (7 < l.length) = decide ((7 : Int) < l.length) := decide_eq_decide.2 (by omega)
    repeat' (first |with_reducible (first |refine zag ?_|refine zaa ?_|refine zaf ?_|refine zad ?_|refine zaj ?_|refine zaA ?_|refine zaz ?_)|refine zab rfl rfl True.intro ?_|refine zat rfl rfl rfl ?_|refine zak rfl rfl rfl rfl True.intro ?_|refine zal rfl ?_|((first |refine zac rfl ?_ ?_|refine zan rfl rfl ?_ ?_)<;>intro<;>try (first |(exfalso;omega)))|refine zaO rfl ?_|refine zau rfl ?_|fail)
    all_goals first
      | (rw [← fin, hd]; done)
      | (exfalso; omega)
      | trace_state
  clear fin
  obtain ⟨hb1, hb2⟩ := hb (i : Int).toNat
  obtain ⟨hc1, hc2⟩ := hl2 (i : Int).toNat
  clear hb hl2
  unfold bigT at hb1
  have hq1 : (i : Int) < l.length := by omega
  have hq2 : (i : Int) < 8 := by omega
  have stop := stop hq.1 hq.2
  have more := fun m => more m hq.1 hq.2
  repeat' (first |with_reducible (first |refine zag ?_|refine zaa ?_|refine zaf ?_|refine zad ?_|refine zah ?_|refine zae ?_)|refine zab rfl rfl True.intro ?_|refine zak rfl rfl rfl rfl True.intro ?_|((first |refine zac rfl ?_ ?_|refine zan rfl rfl ?_ ?_)<;>intro<;>try (first |contradiction))|((first |refine zab rfl rfl ?_ ?_);focus (first |omega|exact le_ rfl|((repeat' refine And.intro ?_ ?_)<;>omega)))|fail)
  refine T.loop hL (fun y : Nat × Int => [(0, .sl 5 l.length (cmpF l)), (3, .i .i64 y.2), (4, .i .i64 i), (5, .i .i64 y.1)]) (fun _ => [])
    (fun y => y.1 ≤ 20 ∧ 0 ≤ y.2 ∧ y.2 ≤ 1500 + (i + 1 : Nat) * 1048576 ∧ scanO (fun k n => muchS ((l.getD (i : Int).toNat c0R).srcs.getD k s0R) n) (l.getD (i : Int).toNat c0R).srcs.length 20 y.1 y.2 = scanO (fun k n => muchS ((l.getD (i : Int).toNat c0R).srcs.getD k s0R) n) (l.getD (i : Int).toNat c0R).srcs.length 20 0 (n + (l.getD (i : Int).toNat c0R).id.length)) (fun y => 20 - y.1) (0, n + (l.getD (i : Int).toNat c0R).id.length) ⟨Nat.zero_le _, by dsimp only; omega, by dsimp only; omega, rfl⟩
    ⟨⟨rfl, rfl, rfl, rfl, trivial⟩, trivial, rfl, by rw [hX]; simp⟩ ?_
  rintro ⟨k, m⟩ ⟨g1, g2, g3, g4⟩
  dsimp only at g1 g2 g3 g4 ⊢
  by_cases hk : k < (l.getD (i : Int).toNat c0R).srcs.length ∧ k < 20
  rotate_left
  · have e : scanO (fun k n => muchS ((l.getD (i : Int).toNat c0R).srcs.getD k s0R) n) (l.getD (i : Int).toNat c0R).srcs.length 20 0 (n + (l.getD (i : Int).toNat c0R).id.length) = some m := by rw [← g4]; exact zcy (fun a b => hk ⟨a, b⟩)
    have ev : muchC (l.getD (i : Int).toNat c0R) n = if 18 < (l.getD (i : Int).toNat c0R).srcs.length then none else some m := by
      unfold muchC
      rw [e]
    clear g4 e
    by_cases h18 : 18 < (l.getD (i : Int).toNat c0R).srcs.length
    · rw [if_pos h18] at ev
      have stop := stop ev
      clear more
      have h18' : (18 : Int) < (l.getD (i : Int).toNat c0R).srcs.length := by omega
      repeat' (first |with_reducible (first |refine zag ?_|refine zaa ?_|refine zaf ?_|refine zad ?_|refine zaj ?_|refine zaA ?_|refine zaz ?_|refine zam ?_|refine zar ?_)|refine zab rfl rfl True.intro ?_|refine zat rfl rfl rfl ?_|refine zak rfl rfl rfl rfl True.intro ?_|refine zal rfl ?_|((first |refine zac rfl ?_ ?_|refine zan rfl rfl ?_ ?_)<;>intro<;>try (first |contradiction|(exfalso;omega)))|((first |refine zab rfl rfl ?_ ?_);focus (first |omega|exact le_ rfl|((repeat' refine And.intro ?_ ?_)<;>omega)))|refine zaO rfl ?_|refine zau rfl ?_|fail)
      all_goals first
        | exact stop
        | (exfalso; omega)
        | trace_state
    · rw [if_neg h18] at ev
      have more := more m ev
      clear stop
      have h18' : ¬ (18 : Int) < (l.getD (i : Int).toNat c0R).srcs.length := by omega
      repeat' (first |with_reducible (first |refine zag ?_|refine zaa ?_|refine zaf ?_|refine zad ?_|refine zah ?_|refine zaA ?_|refine zap ?_|refine zaz ?_)|refine zab rfl rfl True.intro ?_|refine zat rfl rfl rfl ?_|refine zal rfl ?_|((first |refine zac rfl ?_ ?_|refine zan rfl rfl ?_ ?_)<;>intro<;>try (first |contradiction|(exfalso;omega)))|((first |refine zab rfl rfl ?_ ?_);focus (first |omega|exact le_ rfl|((repeat' refine And.intro ?_ ?_)<;>omega)))|refine zaO rfl ?_|fail)
      all_goals first
        | exact ⟨(i + 1, m), ⟨by dsimp only; omega, by dsimp only; omega, by dsimp only; omega, more⟩, by dsimp only; omega, ⟨rfl, rfl, rfl, trivial⟩, trivial, rfl, by rw [hX]; simp⟩
        | (exfalso; omega)
        | trace_state
  have hk1 : (k : Int) < (l.getD (i : Int).toNat c0R).srcs.length := by omega
  have hk2 : (k : Int) < 20 := by omega
  have knat : (k : Int).toNat = k := Int.toNat_natCast k
  obtain ⟨b1, b2, b3, b4, b5, b6, b7⟩ := hb2 (k : Int).toNat
  obtain ⟨s1, s2, s3⟩ := hc2 (k : Int).toNat
  clear hb2 hc2
  unfold bigT at b1 b2 b3 b4
  have stopS : muchS ((l.getD (i : Int).toNat c0R).srcs.getD (k : Int).toNat s0R) m = none → D.b true = D.b (muchL l) := fun z => by
    rw [knat] at z
    have e := zdM (step := fun k n => muchS ((l.getD (i : Int).toNat c0R).srcs.getD k s0R) n) (len := (l.getD (i : Int).toNat c0R).srcs.length) (B := 20) (i := k) (n := m) hk.1 hk.2 z
    refine stop ?_
    unfold muchC
    rw [← g4, e]
  have moreS : ∀ v, muchS ((l.getD (i : Int).toNat c0R).srcs.getD (k : Int).toNat s0R) m = some v → scanO (fun k n => muchS ((l.getD (i : Int).toNat c0R).srcs.getD k s0R) n) (l.getD (i : Int).toNat c0R).srcs.length 20 (k + 1) v = scanO (fun k n => muchS ((l.getD (i : Int).toNat c0R).srcs.getD k s0R) n) (l.getD (i : Int).toNat c0R).srcs.length 20 0 (n + (l.getD (i : Int).toNat c0R).id.length) := fun v z => by
    rw [knat] at z
    rw [← g4]
    exact (zbZ (step := fun k n => muchS ((l.getD (i : Int).toNat c0R).srcs.getD k s0R) n) hk.1 hk.2 z).symm
  clear g4
  repeat' (first |with_reducible (first |refine zag ?_|refine zaa ?_|refine zaf ?_|refine zad ?_|refine zaj ?_|refine zah ?_|refine zae ?_|refine zam ?_|refine zar ?_|refine zaB ?_)|refine zab rfl rfl True.intro ?_|refine zat rfl rfl rfl ?_|refine zak rfl rfl rfl rfl True.intro ?_|refine zav rfl ?_|((first |refine zac rfl ?_ ?_|refine zan rfl rfl ?_ ?_)<;>intro<;>try (first |contradiction))|((first |refine zab rfl rfl ?_ ?_|refine zak rfl rfl rfl rfl ?_ ?_|refine zao rfl rfl ?_ ?_|refine zaw rfl ?_ ?_);focus (first |omega|exact le_ rfl|((repeat' refine And.intro ?_ ?_)<;>omega)|((repeat' refine And.intro ?_ ?_)<;>first |omega|rfl|exact Nat.le_refl _)))|with_reducible refine ⟨by kernel_rfl, ?_⟩|refine zau rfl ?_|fail)
  · exact (stopS (by unfold muchS; rw [if_pos (.inl (by rw [List.length_append]; omega))]))
  · exact (stopS (by unfold muchS; rw [if_pos (.inr (by omega))]))
  refine T.shutW 7 _ (.sl 1 (((l.getD (i : Int).toNat c0R).srcs.getD (k : Int).toNat s0R).only ++ ((l.getD (i : Int).toNat c0R).srcs.getD (k : Int).toNat s0R).notl).length (txF (((l.getD (i : Int).toNat c0R).srcs.getD (k : Int).toNat s0R).only ++ ((l.getD (i : Int).toNat c0R).srcs.getD (k : Int).toNat s0R).notl))) rfl (zpI _ _ _) ?_
  have hal := zsz b5 b6
  have hlen : (((l.getD (i : Int).toNat c0R).srcs.getD (k : Int).toNat s0R).only ++ ((l.getD (i : Int).toNat c0R).srcs.getD (k : Int).toNat s0R).notl).length ≤ 40 := by rw [List.length_append]; omega
  generalize hall : ((l.getD (i : Int).toNat c0R).srcs.getD (k : Int).toNat s0R).only ++ ((l.getD (i : Int).toNat c0R).srcs.getD (k : Int).toNat s0R).notl = al at *
  have hly : ((l.getD (i : Int).toNat c0R).srcs.getD (k : Int).toNat s0R).lays.length ≤ 20 := by omega
  clear b5 b6 s1 s2 s3 stop more
  refine T.loop hL (fun y : Nat × Int => [(0, .sl 5 l.length (cmpF l)), (3, .i .i64 y.2), (4, .i .i64 i), (5, .i .i64 k), (6, .pv 6 0), (7, .sl 1 al.length (txF al)), (8, .i .i64 y.1)]) (fun _ => [(6, .var (srcP ((l.getD (i : Int).toNat c0R).srcs.getD (k : Int).toNat s0R)))])
    (fun y => y.1 ≤ al.length ∧ 0 ≤ y.2 ∧ y.2 ≤ (m + 1 + ((l.getD (i : Int).toNat c0R).srcs.getD (k : Int).toNat s0R).arch.length + ((l.getD (i : Int).toNat c0R).srcs.getD (k : Int).toNat s0R).csv.length + ((l.getD (i : Int).toNat c0R).srcs.getD (k : Int).toNat s0R).key.length + ((l.getD (i : Int).toNat c0R).srcs.getD (k : Int).toNat s0R).attr.length) + (y.1 : Nat) * 1048576 ∧ scanO (txW al) al.length al.length y.1 y.2 = scanO (txW al) al.length al.length 0 (m + 1 + ((l.getD (i : Int).toNat c0R).srcs.getD (k : Int).toNat s0R).arch.length + ((l.getD (i : Int).toNat c0R).srcs.getD (k : Int).toNat s0R).csv.length + ((l.getD (i : Int).toNat c0R).srcs.getD (k : Int).toNat s0R).key.length + ((l.getD (i : Int).toNat c0R).srcs.getD (k : Int).toNat s0R).attr.length)) (fun y => al.length - y.1) (0, (m + 1 + ((l.getD (i : Int).toNat c0R).srcs.getD (k : Int).toNat s0R).arch.length + ((l.getD (i : Int).toNat c0R).srcs.getD (k : Int).toNat s0R).csv.length + ((l.getD (i : Int).toNat c0R).srcs.getD (k : Int).toNat s0R).key.length + ((l.getD (i : Int).toNat c0R).srcs.getD (k : Int).toNat s0R).attr.length)) ⟨Nat.zero_le _, by dsimp only; omega, by dsimp only; omega, rfl⟩
    ⟨⟨rfl, rfl, rfl, rfl, rfl, rfl, rfl, trivial⟩, ⟨rfl, trivial⟩, rfl, by rw [hX]; simp⟩ ?_
  rintro ⟨q, v⟩ ⟨f1, f2, f3, f4⟩
  dsimp only at f1 f2 f3 f4 ⊢
  by_cases hql : q < al.length
  · have hql' : (q : Int) < al.length := by omega
    have qnat : (q : Int).toNat = q := Int.toNat_natCast q
    have hb := hal (q : Int).toNat
    unfold bigT at hb
    have hmr := zbZ (step := txW al) (len := al.length) (B := al.length) (i := q) (n := v) hql hql rfl
    have f4 := hmr.symm.trans f4
    clear hmr hal stopS moreS
    repeat' (first |with_reducible (first |refine zag ?_|refine zaa ?_|refine zaf ?_|refine zad ?_|refine zah ?_|refine zae ?_|refine zap ?_)|refine zab rfl rfl True.intro ?_|((first |refine zac rfl ?_ ?_)<;>intro<;>try (first |contradiction))|((first |refine zab rfl rfl ?_ ?_);focus (first |omega|exact le_ rfl|((repeat' refine And.intro ?_ ?_)<;>omega)))|fail)
    all_goals first
      | exact ⟨(q + 1, v + ((al.getD (q : Int).toNat []).length : Int)), ⟨by dsimp only; omega, by dsimp only; omega, by dsimp only; omega, by dsimp only; rw [qnat]; exact f4⟩, by dsimp only; omega, ⟨rfl, rfl, rfl, rfl, rfl, rfl, rfl, trivial⟩, ⟨rfl, trivial⟩, rfl, by rw [hX]; simp⟩
      | (exfalso; omega)
      | trace_state
  have hql' : ¬ (q : Int) < al.length := by omega
  have e3 : scanO (txW al) al.length al.length 0 (m + 1 + ((l.getD (i : Int).toNat c0R).srcs.getD (k : Int).toNat s0R).arch.length + ((l.getD (i : Int).toNat c0R).srcs.getD (k : Int).toNat s0R).csv.length + ((l.getD (i : Int).toNat c0R).srcs.getD (k : Int).toNat s0R).key.length + ((l.getD (i : Int).toNat c0R).srcs.getD (k : Int).toNat s0R).attr.length) = some v := by rw [← f4]; exact zcy (fun a _ => hql a)
  clear f4 hal
  repeat' (first |with_reducible (first |refine zag ?_|refine zaa ?_|refine zaf ?_|refine zad ?_|refine zaA ?_|refine zae ?_|refine zaz ?_)|refine zab rfl rfl True.intro ?_|((first |refine zac rfl ?_ ?_)<;>intro<;>try (first |contradiction))|refine zaO rfl ?_|fail)
  refine T.loop hL (fun y : Nat × Int => [(0, .sl 5 l.length (cmpF l)), (3, .i .i64 y.2), (4, .i .i64 i), (5, .i .i64 k), (6, .pv 6 0), (9, .i .i64 y.1)]) (fun _ => [(6, .var (srcP ((l.getD (i : Int).toNat c0R).srcs.getD (k : Int).toNat s0R)))])
    (fun y => y.1 ≤ ((l.getD (i : Int).toNat c0R).srcs.getD (k : Int).toNat s0R).lays.length ∧ 0 ≤ y.2 ∧ y.2 ≤ v + (y.1 : Nat) * 2097152 ∧ scanO (flW ((l.getD (i : Int).toNat c0R).srcs.getD (k : Int).toNat s0R).lays) ((l.getD (i : Int).toNat c0R).srcs.getD (k : Int).toNat s0R).lays.length ((l.getD (i : Int).toNat c0R).srcs.getD (k : Int).toNat s0R).lays.length y.1 y.2 = scanO (flW ((l.getD (i : Int).toNat c0R).srcs.getD (k : Int).toNat s0R).lays) ((l.getD (i : Int).toNat c0R).srcs.getD (k : Int).toNat s0R).lays.length ((l.getD (i : Int).toNat c0R).srcs.getD (k : Int).toNat s0R).lays.length 0 v) (fun y => ((l.getD (i : Int).toNat c0R).srcs.getD (k : Int).toNat s0R).lays.length - y.1) (0, v) ⟨Nat.zero_le _, by dsimp only; omega, by dsimp only; omega, rfl⟩
    ⟨⟨rfl, rfl, rfl, rfl, rfl, rfl, trivial⟩, ⟨rfl, trivial⟩, rfl, by rw [hX]; simp⟩ ?_
  rintro ⟨u, w⟩ ⟨d1, d2, d3, d4⟩
  dsimp only at d1 d2 d3 d4 ⊢
  by_cases hul : u < ((l.getD (i : Int).toNat c0R).srcs.getD (k : Int).toNat s0R).lays.length
  · have hul' : (u : Int) < ((l.getD (i : Int).toNat c0R).srcs.getD (k : Int).toNat s0R).lays.length := by omega
    have unat : (u : Int).toNat = u := Int.toNat_natCast u
    obtain ⟨hb, hb'⟩ := b7 (u : Int).toNat
    unfold bigT at hb hb'
    have hmr := zbZ (step := flW ((l.getD (i : Int).toNat c0R).srcs.getD (k : Int).toNat s0R).lays) (len := ((l.getD (i : Int).toNat c0R).srcs.getD (k : Int).toNat s0R).lays.length) (B := ((l.getD (i : Int).toNat c0R).srcs.getD (k : Int).toNat s0R).lays.length) (i := u) (n := w) hul hul rfl
    have d4 := hmr.symm.trans d4
    clear hmr b7 stopS moreS e3
    repeat' (first |with_reducible (first |refine zag ?_|refine zaa ?_|refine zaf ?_|refine zad ?_|refine zah ?_|refine zae ?_|refine zap ?_|refine zaB ?_)|refine zab rfl rfl True.intro ?_|((first |refine zac rfl ?_ ?_)<;>intro<;>try (first |contradiction))|((first |refine zab rfl rfl ?_ ?_);focus (first |omega|exact le_ rfl|((repeat' refine And.intro ?_ ?_)<;>omega)))|with_reducible refine ⟨by kernel_rfl, ?_⟩|fail)
    all_goals first
      | exact ⟨(u + 1, w + ((((l.getD (i : Int).toNat c0R).srcs.getD (k : Int).toNat s0R).lays.getD (u : Int).toNat ([], [])).1.length : Int) + ((((l.getD (i : Int).toNat c0R).srcs.getD (k : Int).toNat s0R).lays.getD (u : Int).toNat ([], [])).2.length : Int)), ⟨by dsimp only; omega, by dsimp only; omega, by dsimp only; omega, by dsimp only; rw [unat]; exact d4⟩, by dsimp only; omega, ⟨rfl, rfl, rfl, rfl, rfl, rfl, trivial⟩, ⟨rfl, trivial⟩, rfl, by rw [hX]; simp⟩
      | (exfalso; omega)
      | trace_state
  have hul' : ¬ (u : Int) < ((l.getD (i : Int).toNat c0R).srcs.getD (k : Int).toNat s0R).lays.length := by omega
  have e4 : scanO (flW ((l.getD (i : Int).toNat c0R).srcs.getD (k : Int).toNat s0R).lays) ((l.getD (i : Int).toNat c0R).srcs.getD (k : Int).toNat s0R).lays.length ((l.getD (i : Int).toNat c0R).srcs.getD (k : Int).toNat s0R).lays.length 0 v = some w := by rw [← d4]; exact zcy (fun a _ => hul a)
  have ev : muchS ((l.getD (i : Int).toNat c0R).srcs.getD (k : Int).toNat s0R) m = if w > 1500 then none else some w := by
    unfold muchS
    rw [hall, if_neg (by omega), e3]
    dsimp only
    rw [e4]
  clear d4 e3 e4 b7
  by_cases hw : w > 1500
  · rw [if_pos hw] at ev
    have stopS := stopS ev
    clear moreS
    repeat' (first |with_reducible (first |refine zag ?_|refine zaa ?_|refine zaf ?_|refine zad ?_|refine zaj ?_|refine zaA ?_|refine zaz ?_|refine zam ?_|refine zar ?_)|refine zab rfl rfl True.intro ?_|((first |refine zac rfl ?_ ?_)<;>intro<;>try (first |contradiction))|((first |refine zab rfl rfl ?_ ?_);focus (first |exact le_ rfl|((repeat' refine And.intro ?_ ?_)<;>omega)))|refine zaO rfl ?_|refine zau rfl ?_|fail)
    all_goals first
      | exact stopS
      | (exfalso; omega)
      | trace_state
  · rw [if_neg hw] at ev
    have moreS := moreS w ev
    clear stopS
    repeat' (first |with_reducible (first |refine zag ?_|refine zaa ?_|refine zaf ?_|refine zad ?_|refine zah ?_|refine zaA ?_|refine zap ?_|refine zaz ?_)|refine zab rfl rfl True.intro ?_|((first |refine zac rfl ?_ ?_)<;>intro<;>try (first |contradiction))|((first |refine zab rfl rfl ?_ ?_);focus (first |omega|exact le_ rfl|((repeat' refine And.intro ?_ ?_)<;>omega)))|refine zaO rfl ?_|fail)
    all_goals first
      | exact ⟨(k + 1, w), ⟨by dsimp only; omega, by dsimp only; omega, by dsimp only; omega, moreS⟩, by dsimp only; omega, ⟨rfl, rfl, rfl, rfl, trivial⟩, trivial, rfl, by rw [hX]; simp⟩
      | (exfalso; omega)
      | trace_state

section
variable {H : Type}
theorem zfq (l : List (DataW H)) (n i : Nat) : (l.drop n).getD i .nil = l.getD (n + i) .nil := by
  simp [List.getD_eq_getElem?_getD]
def kid (d : DataW H) (i : Nat) : DataW H := (kids d).getD i .nil
theorem bk (d : DataW H) (i : Nat) : Rows.uptoBulk (kid d i) ≤ Rows.uptoBulk d := by
  unfold kid
  by_cases h : i < (kids d).length
  · rw [List.getD_eq_getElem?_getD, List.getElem?_eq_getElem h, Option.getD_some]
    have := zls (List.getElem_mem h)
    have := zjw d
    omega
  · rw [List.getD_eq_getElem?_getD, List.getElem?_eq_none (by omega), Option.getD_none]
    exact zln d
theorem bkl (d : DataW H) : (kids d).length ≤ Rows.uptoBulk d := by
  have := zlx (kids d)
  have := zjw d
  omega
def fldOf (d : DataW H) : Fld := (strOf (kid d 0), strOf (kid d 1))
def fldsOf (d : DataW H) : List Fld := (kids d).map fldOf
def txsOf (d : DataW H) : List Txt := (kids d).map strOf
def srcOf (d : DataW H) : SrcR := ⟨strOf (kid d 0), fldsOf (kid d 1), strOf (kid d 2), strOf (kid (kid d 3) 0), strOf (kid (kid d 3) 1), txsOf (kid (kid d 3) 2), txsOf (kid (kid d 3) 3), boolOf (kid (kid d 3) 4), boolOf (kid (kid d 3) 5)⟩
def srcsOf (d : DataW H) : List SrcR := (kids d).map srcOf
def cmpOf (d : DataW H) : CmpR := ⟨strOf (kid d 0), srcsOf (kid d 1), intOf (kid d 2), intOf (kid d 3), intOf (kid d 4)⟩
def cmpsOf (d : DataW H) : List CmpR := (kids d).map cmpOf
theorem ziN (d : DataW H) (i : Nat) : (fldsOf d).getD i ([], []) = fldOf (kid d i) := zfx fldOf (kids d) .nil i
theorem zkU (d : DataW H) (i : Nat) : (txsOf d).getD i [] = strOf (kid d i) := zfx strOf (kids d) .nil i
theorem zgd (d : DataW H) (i : Nat) : (srcsOf d).getD i s0R = srcOf (kid d i) := zfx srcOf (kids d) .nil i
theorem zgy (d : DataW H) (i : Nat) : (cmpsOf d).getD i c0R = cmpOf (kid d i) := zfx cmpOf (kids d) .nil i
def gS (d : DataW H) : List D := [.s (strOf d)]
def gI (d : DataW H) : List D := [.i .i64 (intOf d)]
def gBk (d : DataW H) : List D := [.b (boolOf d)]
def gFld (d : DataW H) : List D := catG (List.replicate 2 gS) (kids d)
def gSl (z : Nat) (G : DataW H → List D) (d : DataW H) : List D := [.sl z (kids d).length (fun i => G ((kids d).getD i .nil))]
def gJoin (d : DataW H) : List D := catG [gS, gS, gSl 1 gS, gSl 1 gS, gBk, gBk] (kids d)
def gSrc (d : DataW H) : List D := catG [gS, gSl 2 gFld, gS, gJoin] (kids d)
def gCmp (d : DataW H) : List D := catG [gS, gSl 9 gSrc, gI, gI, gI] (kids d)
theorem zsm (d : DataW H) : gFld d = [.s (fldOf d).1, .s (fldOf d).2] := by
  show [D.s (strOf ((kids d).getD 0 .nil))] ++ ([D.s (strOf (((kids d).drop 1).getD 0 .nil))] ++ []) = _
  rw [zfq]
  rfl
theorem zra (d : DataW H) : gSl 2 gFld d = [.sl 2 (fldsOf d).length (fldF (fldsOf d))] := by
  have h1 : (fldsOf d).length = (kids d).length := by simp [fldsOf]
  have h2 : (fun i => gFld ((kids d).getD i .nil)) = fldF (fldsOf d) := by
    funext i
    unfold fldF
    rw [zsm, ziN]
    rfl
  show [D.sl 2 (kids d).length (fun i => gFld ((kids d).getD i .nil))] = _
  rw [h1, h2]
theorem zsZ (d : DataW H) : gSl 1 gS d = [.sl 1 (txsOf d).length (txF (txsOf d))] := by
  have h1 : (txsOf d).length = (kids d).length := by simp [txsOf]
  have h2 : (fun i => gS ((kids d).getD i .nil)) = txF (txsOf d) := by
    funext i
    unfold txF
    rw [zkU]
    rfl
  show [D.sl 1 (kids d).length (fun i => gS ((kids d).getD i .nil))] = _
  rw [h1, h2]
theorem zqv (d : DataW H) : gJoin d = [.s (strOf (kid d 0)), .s (strOf (kid d 1)), .sl 1 (txsOf (kid d 2)).length (txF (txsOf (kid d 2))), .sl 1 (txsOf (kid d 3)).length (txF (txsOf (kid d 3))), .b (boolOf (kid d 4)), .b (boolOf (kid d 5))] := by
  show gS ((kids d).getD 0 .nil) ++ (gS (((kids d).drop 1).getD 0 .nil) ++ (gSl 1 gS ((((kids d).drop 1).drop 1).getD 0 .nil) ++ (gSl 1 gS (((((kids d).drop 1).drop 1).drop 1).getD 0 .nil) ++ (gBk ((((((kids d).drop 1).drop 1).drop 1).drop 1).getD 0 .nil) ++ (gBk (((((((kids d).drop 1).drop 1).drop 1).drop 1).drop 1).getD 0 .nil) ++ []))))) = _
  simp only [List.drop_drop, zfq, zsZ]
  rfl
theorem zsS (d : DataW H) : gSrc d = srcP (srcOf d) := by
  show gS ((kids d).getD 0 .nil) ++ (gSl 2 gFld (((kids d).drop 1).getD 0 .nil) ++ (gS ((((kids d).drop 1).drop 1).getD 0 .nil) ++ (gJoin (((((kids d).drop 1).drop 1).drop 1).getD 0 .nil) ++ []))) = _
  simp only [List.drop_drop, zfq, zra, zqv]
  rfl
theorem zqT (d : DataW H) : gSl 9 gSrc d = [.sl 9 (srcsOf d).length (srcF (srcsOf d))] := by
  have h1 : (srcsOf d).length = (kids d).length := by simp [srcsOf]
  have h2 : (fun i => gSrc ((kids d).getD i .nil)) = srcF (srcsOf d) := by
    funext i
    unfold srcF
    rw [zsS, zgd]
    rfl
  show [D.sl 9 (kids d).length (fun i => gSrc ((kids d).getD i .nil))] = _
  rw [h1, h2]
theorem zsf (d : DataW H) : gCmp d = cmpP (cmpOf d) := by
  show gS ((kids d).getD 0 .nil) ++ (gSl 9 gSrc (((kids d).drop 1).getD 0 .nil) ++ (gI ((((kids d).drop 1).drop 1).getD 0 .nil) ++ (gI (((((kids d).drop 1).drop 1).drop 1).getD 0 .nil) ++ (gI ((((((kids d).drop 1).drop 1).drop 1).drop 1).getD 0 .nil) ++ [])))) = _
  simp only [List.drop_drop, zfq, zqT]
  rfl
theorem zqK (d : DataW H) : gSl 5 gCmp d = [.sl 5 (cmpsOf d).length (cmpF (cmpsOf d))] := by
  have h1 : (cmpsOf d).length = (kids d).length := by simp [cmpsOf]
  have h2 : (fun i => gCmp ((kids d).getD i .nil)) = cmpF (cmpsOf d) := by
    funext i
    unfold cmpF
    rw [zsf, zgy]
    rfl
  show [D.sl 5 (kids d).length (fun i => gCmp ((kids d).getD i .nil))] = _
  rw [h1, h2]
theorem zdc {d : DataW H} (h : Rows.uptoBulk d ≤ 1048576) : bigT (strOf d) := Nat.le_trans (zrd d) h
theorem zlD {d : DataW H} (h : Rows.uptoBulk d ≤ 1048576) (i : Nat) : bigT ((txsOf d).getD i []) := by
  rw [zkU]
  exact zdc (Nat.le_trans (bk d i) h)
theorem zsr {d : DataW H} (h : Rows.uptoBulk d ≤ 1048576) : bigS (srcOf d) := by
  have h0 := bk d 0
  have h1 := bk d 1
  have h2 := bk d 2
  have h3 := bk d 3
  have k0 := bk (kid d 3) 0
  have k1 := bk (kid d 3) 1
  have k2 := bk (kid d 3) 2
  have k3 := bk (kid d 3) 3
  refine ⟨zdc (by omega), zdc (by omega), zdc (by omega), zdc (by omega), zlD (by omega), zlD (by omega), fun i => ?_⟩
  show bigT ((fldsOf (kid d 1)).getD i ([], [])).1 ∧ bigT ((fldsOf (kid d 1)).getD i ([], [])).2
  rw [ziN]
  have h4 := bk (kid d 1) i
  have h5 := bk (kid (kid d 1) i) 0
  have h6 := bk (kid (kid d 1) i) 1
  exact ⟨zdc (by omega), zdc (by omega)⟩
theorem zsF {d : DataW H} (h : Rows.uptoBulk d ≤ 1048576) : bigC (cmpOf d) := by
  have h0 := bk d 0
  have h1 := bk d 1
  refine ⟨zdc (by omega), fun i => ?_⟩
  show bigS ((srcsOf (kid d 1)).getD i s0R)
  rw [zgd]
  have h2 := bk (kid d 1) i
  exact zsr (by omega)
theorem zsH {d : DataW H} (h : Rows.uptoBulk d ≤ 1048576) (i : Nat) : bigC ((cmpsOf d).getD i c0R) := by
  rw [zgy]
  exact zsF (Nat.le_trans (bk d i) h)
theorem zng {d : DataW H} (h : Rows.uptoBulk d ≤ 1048576) : smallS (srcOf d) := by
  have h1 := bk d 1
  have h3 := bk d 3
  have k2 := bk (kid d 3) 2
  have k3 := bk (kid d 3) 3
  have l1 := bkl (kid d 1)
  have l2 := bkl (kid (kid d 3) 2)
  have l3 := bkl (kid (kid d 3) 3)
  refine ⟨?_, ?_, ?_⟩
  · show (fldsOf (kid d 1)).length ≤ _
    simp only [fldsOf, List.length_map]
    omega
  · show (txsOf (kid (kid d 3) 2)).length ≤ _
    simp only [txsOf, List.length_map]
    omega
  · show (txsOf (kid (kid d 3) 3)).length ≤ _
    simp only [txsOf, List.length_map]
    omega
theorem zpC {d : DataW H} (h : Rows.uptoBulk d ≤ 1048576) : smallC (cmpOf d) := by
  have h1 := bk d 1
  have l1 := bkl (kid d 1)
  refine ⟨?_, fun i => ?_⟩
  · show (srcsOf (kid d 1)).length ≤ _
    simp only [srcsOf, List.length_map]
    omega
  · show smallS ((srcsOf (kid d 1)).getD i s0R)
    rw [zgd]
    have h2 := bk (kid d 1) i
    exact zng (by omega)
theorem znb {d : DataW H} (h : Rows.uptoBulk d ≤ 1048576) : smallL (cmpsOf d) := by
  refine ⟨by have := bkl d; simp only [cmpsOf, List.length_map]; omega, fun i => ?_⟩
  rw [zgy]
  exact zpC (Nat.le_trans (bk d i) h)
variable {enc : TypeId × Value → H} {W : World}
theorem znI : Tells enc W 46 2 (gFld (H := H)) := zky Tryz.underlying46 (by kernel_rfl) (by kernel_rfl) rfl (zcj Tryz.underlying9)
theorem ziB : Tells enc W 41 1 (gSl 1 (gS (H := H))) := zcP Tryz.underlying41 (by kernel_rfl) (by omega) (zcj Tryz.underlying9)
theorem zmm : Tells enc W 43 6 (gJoin (H := H)) :=
  zdp Tryz.underlying43 rfl (by kernel_rfl) (.cons _ _ 0 1 6 _ _ rfl (by kernel_rfl) (zcj Tryz.underlying9) (.cons _ _ 1 1 6 _ _ rfl (by kernel_rfl) (zcj Tryz.underlying9) (.cons _ _ 2 1 6 _ _ rfl (by kernel_rfl) ziB (.cons _ _ 3 1 6 _ _ rfl (by kernel_rfl) ziB
    (.cons _ _ 4 1 6 _ _ rfl (by kernel_rfl) (zhq Tryz.underlying4) (.cons _ _ 5 1 6 _ _ rfl (by kernel_rfl) (zhq Tryz.underlying4) (.nil 6)))))))
theorem znE : Tells enc W 45 9 (gSrc (H := H)) :=
  zdp Tryz.underlying45 rfl (by kernel_rfl) (.cons _ _ 0 1 9 _ _ rfl (by kernel_rfl) (zcj Tryz.underlying9) (.cons _ _ 1 1 9 _ _ rfl (by kernel_rfl) (zcP Tryz.underlying40 (by kernel_rfl) (by omega) znI) (.cons _ _ 2 1 9 _ _ rfl (by kernel_rfl) (zcj Tryz.underlying9) (.cons _ _ 3 6 9 _ _ rfl (by kernel_rfl) zmm (.nil 9)))))
theorem znl : Tells enc W 27 5 (gCmp (H := H)) :=
  zdp Tryz.underlying27 rfl (by kernel_rfl) (.cons _ _ 0 1 5 _ _ rfl (by kernel_rfl) (zcj Tryz.underlying9) (.cons _ _ 1 1 5 _ _ rfl (by kernel_rfl) (zcP Tryz.underlying25 (by kernel_rfl) (by omega) znE) (.cons _ _ 2 1 5 _ _ rfl (by kernel_rfl) (zgA Tryz.underlying3) (.cons _ _ 3 1 5 _ _ rfl (by kernel_rfl) (zgA Tryz.underlying3) (.cons _ _ 4 1 5 _ _ rfl (by kernel_rfl) (zgA Tryz.underlying3) (.nil 5))))))
set_option maxRecDepth 100000 in
theorem zqc {base : Nat} {v : Value} {d : DataW H} {ps : List MemPlace} (hv : Value.okWide Tryz.prog W .any base 22 v) (h : DataW.Trod enc Tryz.prog W 0 (fun _ => true) true 22 v d ps) :
    Rel (allOf W) W noRho (.sl 5 (cmpsOf d).length (cmpF (cmpsOf d))) v := by
  have k := znA (enc := enc) Tryz.underlying22 (by kernel_rfl) (by omega) znl hv h
  have e : D.sl 5 (kids d).length (fun i => gCmp ((kids d).getD i .nil)) = .sl 5 (cmpsOf d).length (cmpF (cmpsOf d)) := (List.cons.inj (zqK d)).1
  rwa [e] at k
end

theorem zkg (n m : Int) : Ctr Tryz.prog 37 [.i .i64 n, .i .i64 m] (.b (decide (0 ≤ n ∧ n ≤ m))) := by
  refine zaE Tryz.func37 rfl Tryz.ntmps37 Tryz.results37 rfl rfl fun X hL hX => ?_
  by_cases h1 : 0 ≤ n
  · skip
    repeat' (first |with_reducible (first |refine zag ?_|refine zaa ?_|refine zaf ?_|refine zad ?_|refine zaj ?_)|refine zab rfl rfl True.intro ?_|refine zak rfl rfl rfl rfl True.intro ?_|((first |refine zan rfl rfl ?_ ?_)<;>intro<;>try (first |contradiction))|refine zau rfl ?_|fail)
    all_goals first
      | exact congrArg D.b (decide_eq_decide.2 ⟨fun h => ⟨h1, h⟩, fun h => h.2⟩)
      | (exfalso; omega)
      | trace_state
  · skip
    repeat' (first |with_reducible (first |refine zag ?_|refine zaa ?_|refine zaf ?_|refine zad ?_|refine zaj ?_)|refine zab rfl rfl True.intro ?_|refine zat rfl rfl rfl ?_|((first |refine zan rfl rfl ?_ ?_)<;>intro<;>try (first |contradiction))|refine zau rfl ?_|fail)
    all_goals first
      | exact congrArg D.b (decide_eq_false fun h => h1 h.1).symm
      | (exfalso; omega)
      | trace_state
theorem zpQ (t : Txt) (ht : t.length ≤ 1099511627776) : Ctr Tryz.prog 68 [.s t] (.b (!validL t)) := by
  have c := zdd t ht
  refine zaE Tryz.func68 rfl Tryz.ntmps68 Tryz.results68 rfl rfl fun X hL hX => ?_
  repeat' (first |refine zai (f := 69) rfl rfl Tryz.call69 rfl c ?_|with_reducible (first |refine zag ?_|refine zaa ?_|refine zaf ?_|refine zad ?_|refine zaj ?_)|refine zab rfl rfl True.intro ?_|refine zau rfl ?_|fail)
  all_goals rfl
def noneJ (s : SrcR) : Prop := s.key = [] ∧ s.attr = [] ∧ (s.only.length : Int) + (s.notl.length : Int) = 0 ∧ s.texts = false ∧ s.drop = false
instance (s : SrcR) : Decidable (noneJ s) := by unfold noneJ; infer_instance
def joinP (s : SrcR) : List D := [.s s.key, .s s.attr, .sl 1 s.only.length (txF s.only), .sl 1 s.notl.length (txF s.notl), .b s.texts, .b s.drop]
set_option maxRecDepth 100000 in
set_option maxHeartbeats 4000000 in
theorem zow (s : SrcR) (hs : smallS s) : Ctr Tryz.prog 72 [.ag (joinP s)] (.b (decide (noneJ s))) := by
  obtain ⟨_, h2, h3⟩ := hs
  unfold noneJ
  refine zaE Tryz.func72 rfl Tryz.ntmps72 Tryz.results72 rfl rfl fun X hL hX => ?_
  repeat' (first |with_reducible (first |refine zag ?_|refine zaa ?_|refine zaf ?_|refine zad ?_|refine zaj ?_)|refine zab rfl rfl True.intro ?_|refine zat rfl rfl rfl ?_|refine zak rfl rfl rfl rfl True.intro ?_|((first |refine zan rfl rfl ?_ ?_|refine zep rfl rfl ?_ ?_|refine zaD rfl rfl ?_ ?_)<;>intro)|((first |refine zab rfl rfl ?_ ?_|refine zak rfl rfl rfl rfl ?_ ?_|refine zao rfl rfl ?_ ?_);focus (first |omega|exact le_ rfl|((repeat' refine And.intro ?_ ?_)<;>omega)|((repeat' refine And.intro ?_ ?_)<;>first |rfl)))|refine zau rfl ?_|fail)
  all_goals (refine congrArg D.b ?_; clear hL hX X h2 h3; first | (simp_all; done) | (simp_all; generalize s.drop = q; cases q <;> rfl))
def badT : List Txt → Int
  | [] => -1
  | t :: r => if validL t = true then (if badT r < 0 then -1 else badT r + 1) else 0
theorem zll : ∀ {l : List Txt} {i : Nat}, i < l.length → (∀ j, j < i → validL (l.getD j []) = true) → validL (l.getD i []) = false → badT l = i
  | [], _, h, _, _ => by simp at h
  | t :: r, 0, _, _, h => by
    have h : validL t = false := by simpa using h
    rw [badT, h]
    rfl
  | t :: r, i + 1, hi, h1, h => by
    have h0 : validL t = true := by simpa using h1 0 (by omega)
    have ih := zll (l := r) (i := i) (by simpa using hi) (fun j hj => by simpa using h1 (j + 1) (by omega)) (by simpa using h)
    rw [badT, if_pos h0, ih, if_neg (by omega)]
    omega
theorem zgs : ∀ {l : List Txt}, (∀ j, j < l.length → validL (l.getD j []) = true) → badT l = -1
  | [], _ => rfl
  | t :: r, h1 => by
    have h0 : validL t = true := by simpa using h1 0 (by simp)
    have ih := zgs (l := r) fun j hj => by simpa using h1 (j + 1) (by simpa using hj)
    rw [badT, if_pos h0, ih]
    rfl
theorem zij : ∀ l : List Txt, (0 ≤ badT l ↔ l.all validL = false)
  | [] => by simp [badT]
  | t :: r => by
    have ih := zij r
    rw [badT, List.all_cons]
    by_cases h0 : validL t = true
    · rw [if_pos h0, h0, Bool.true_and]
      by_cases h1 : badT r < 0
      · rw [if_pos h1, ← ih]
        omega
      · rw [if_neg h1, ← ih]
        omega
    · rw [if_neg h0]
      have h0 : validL t = false := by simpa using h0
      simp [h0]
set_option maxRecDepth 100000 in
set_option maxHeartbeats 2000000 in
theorem zjV (l : List Txt) (hl : l.length ≤ 4194304) (hb : ∀ i, (l.getD i []).length ≤ 1099511627776) :
    Ctr Tryz.prog 102 [.sl 1 l.length (txF l), .fn 68 []] (.i .i64 (badT l)) := by
  refine zaE Tryz.func102 rfl Tryz.ntmps102 Tryz.results102 rfl rfl fun X hL hX => ?_
  repeat' (first |with_reducible (first |refine zag ?_|refine zaa ?_|refine zaf ?_|refine zad ?_|refine zae ?_)|refine zab rfl rfl True.intro ?_|fail)
  refine T.loop hL (fun i : Nat => [(0, .sl 1 l.length (txF l)), (1, .fn 68 []), (7, .i .i64 l.length), (8, .i .i64 i)]) (fun _ => [])
    (fun i => i ≤ l.length ∧ ∀ j, j < i → validL (l.getD j []) = true) (fun i => l.length - i) 0 ⟨Nat.zero_le _, fun j h => absurd h (Nat.not_lt_zero _)⟩
    ⟨⟨rfl, rfl, rfl, rfl, trivial⟩, trivial, rfl, by rw [hX]; simp⟩ ?_
  rintro i ⟨g1, g2⟩
  try dsimp only at g1 g2 ⊢
  have hnat : (i : Int).toNat = i := Int.toNat_natCast i
  by_cases hil : i < l.length
  rotate_left
  · rw [zgs (fun j hj => g2 j (by omega))]
    have hil' : ¬ (i : Int) < l.length := by omega
    repeat' (first |with_reducible (first |refine zag ?_|refine zaa ?_|refine zaf ?_|refine zad ?_|refine zaj ?_|refine zaA ?_|refine zaz ?_)|refine zab rfl rfl True.intro ?_|((first |refine zac rfl ?_ ?_)<;>intro<;>try (first |contradiction))|refine zaO rfl ?_|refine zau rfl ?_|fail)
    all_goals rfl
  have hil' : (i : Int) < l.length := by omega
  have c := zpQ (l.getD (i : Int).toNat []) (hb _)
  cases hv : validL (l.getD (i : Int).toNat []) with
  | true =>
    rw [hv] at c
    have g3 : ∀ j, j < i + 1 → validL (l.getD j []) = true := fun j hj => by
      by_cases e : j = i
      · rw [e]
        rwa [hnat] at hv
      · exact g2 j (by omega)
    clear g2
    repeat' (first |refine zai (f := 68) rfl rfl Tryz.call68 rfl c ?_|with_reducible (first |refine zag ?_|refine zaa ?_|refine zaf ?_|refine zad ?_|refine zah ?_|refine zae ?_|refine zap ?_)|refine zab rfl rfl True.intro ?_|refine zal rfl ?_|((first |refine zac rfl ?_ ?_)<;>intro<;>try (first |contradiction))|((first |refine zab rfl rfl ?_ ?_);focus (first |omega|exact le_ rfl|((repeat' refine And.intro ?_ ?_)<;>omega)))|fail)
    all_goals exact ⟨i + 1, ⟨by omega, g3⟩, by omega, ⟨rfl, rfl, rfl, rfl, trivial⟩, trivial, rfl, by rw [hX]; simp⟩
  | false =>
    rw [hv] at c
    rw [zll hil g2 (by rwa [hnat] at hv)]
    clear g2
    repeat' (first |refine zai (f := 68) rfl rfl Tryz.call68 rfl c ?_|with_reducible (first |refine zag ?_|refine zaa ?_|refine zaf ?_|refine zad ?_|refine zaj ?_|refine zah ?_|refine zae ?_|refine zam ?_|refine zar ?_)|refine zab rfl rfl True.intro ?_|refine zav rfl ?_|((first |refine zac rfl ?_ ?_)<;>intro<;>try (first |contradiction))|((first |refine zab rfl rfl ?_ ?_);focus (first |omega|exact le_ rfl|((repeat' refine And.intro ?_ ?_)<;>omega)))|refine zau rfl ?_|fail)
    all_goals rfl
set_option maxRecDepth 100000 in
theorem zmn (l : List Txt) (hl : l.length ≤ 4194304) (hb : ∀ i, (l.getD i []).length ≤ 1099511627776) :
    Ctr Tryz.prog 70 [.sl 1 l.length (txF l), .fn 68 []] (.b (!l.all validL)) := by
  have c := zjV l hl hb
  have ha := zij l
  refine zaE Tryz.func70 rfl Tryz.ntmps70 Tryz.results70 rfl rfl fun X hL hX => ?_
  repeat' (first |refine zai (f := 102) rfl rfl Tryz.call102 rfl c ?_|with_reducible (first |refine zag ?_|refine zaa ?_|refine zaf ?_|refine zad ?_|refine zaj ?_)|refine zab rfl rfl True.intro ?_|refine zau rfl ?_|fail)
  all_goals (refine congrArg D.b ?_; cases hq : l.all validL <;> simp_all)

theorem ztJ {l : List Txt} (h : ∀ j, j < l.length → validL (l.getD j []) = true) : l.all validL = true := by
  have := zij l
  rw [zgs h] at this
  cases hq : l.all validL with
  | true => rfl
  | false => exact absurd (this.2 hq) (by decide)
theorem zsl {l : List Txt} {i : Nat} (hi : i < l.length) (h : validL (l.getD i []) = false) : l.all validL = false := by
  cases hq : l.all validL with
  | false => rfl
  | true =>
    have := List.all_eq_true.1 hq (l.getD i []) (by
      rw [show l.getD i [] = l[i] by simp [List.getD_eq_getElem?_getD, hi]]
      exact List.getElem_mem hi)
    rw [h] at this
    cases this
set_option maxRecDepth 100000 in
set_option maxHeartbeats 2000000 in
theorem zcM (l : List Txt) (hl : l.length ≤ 4194304) (hb : ∀ i, (l.getD i []).length ≤ 1099511627776) : Ctr Tryz.prog 73 [.sl 1 l.length (txF l)] (.b (l.all validL)) := by
  refine zaE Tryz.func73 rfl Tryz.ntmps73 Tryz.results73 rfl rfl fun X hL hX => ?_
  repeat' (first |with_reducible (first |refine zag ?_|refine zaa ?_|refine zaf ?_|refine zad ?_|refine zae ?_)|refine zab rfl rfl True.intro ?_|fail)
  refine T.loop hL (fun i : Nat => [(0, .sl 1 l.length (txF l)), (3, .i .i64 i)]) (fun _ => [])
    (fun i => i ≤ l.length ∧ ∀ j, j < i → validL (l.getD j []) = true) (fun i => l.length - i) 0 ⟨Nat.zero_le _, fun j h => absurd h (Nat.not_lt_zero _)⟩
    ⟨⟨rfl, rfl, trivial⟩, trivial, rfl, by rw [hX]; simp⟩ ?_
  rintro i ⟨g1, g2⟩
  try dsimp only at g1 g2 ⊢
  have hnat : (i : Int).toNat = i := Int.toNat_natCast i
  by_cases hil : i < l.length
  rotate_left
  · rw [ztJ (fun j hj => g2 j (by omega))]
    have hil' : ¬ (i : Int) < l.length := by omega
    repeat' (first |with_reducible (first |refine zag ?_|refine zaa ?_|refine zaf ?_|refine zad ?_|refine zaj ?_|refine zaA ?_|refine zaz ?_)|refine zab rfl rfl True.intro ?_|((first |refine zac rfl ?_ ?_)<;>intro<;>try (first |contradiction))|refine zaO rfl ?_|refine zau rfl ?_|fail)
    all_goals rfl
  have hil' : (i : Int) < l.length := by omega
  have c := zgT (l.getD (i : Int).toNat []) (hb _)
  cases hv : validL (l.getD (i : Int).toNat []) with
  | true =>
    rw [hv] at c
    have g3 : ∀ j, j < i + 1 → validL (l.getD j []) = true := fun j hj => by
      by_cases e : j = i
      · rw [e]
        rwa [hnat] at hv
      · exact g2 j (by omega)
    clear g2
    repeat' (first |refine zai (f := 104) rfl rfl Tryz.call104 rfl c ?_|with_reducible (first |refine zag ?_|refine zaa ?_|refine zaf ?_|refine zad ?_|refine zah ?_|refine zae ?_|refine zap ?_)|refine zab rfl rfl True.intro ?_|refine zal rfl ?_|((first |refine zac rfl ?_ ?_)<;>intro<;>try (first |contradiction))|((first |refine zab rfl rfl ?_ ?_);focus (first |omega|exact le_ rfl|((repeat' refine And.intro ?_ ?_)<;>omega)))|fail)
    all_goals exact ⟨i + 1, ⟨by omega, g3⟩, by omega, ⟨rfl, rfl, trivial⟩, trivial, rfl, by rw [hX]; simp⟩
  | false =>
    rw [hv] at c
    rw [zsl hil (by rwa [hnat] at hv)]
    clear g2
    repeat' (first |refine zai (f := 104) rfl rfl Tryz.call104 rfl c ?_|with_reducible (first |refine zag ?_|refine zaa ?_|refine zaf ?_|refine zad ?_|refine zaj ?_|refine zah ?_|refine zae ?_|refine zam ?_|refine zar ?_)|refine zab rfl rfl True.intro ?_|refine zav rfl ?_|((first |refine zac rfl ?_ ?_)<;>intro<;>try (first |contradiction))|((first |refine zab rfl rfl ?_ ?_);focus (first |omega|exact le_ rfl|((repeat' refine And.intro ?_ ?_)<;>omega)))|refine zau rfl ?_|fail)
    all_goals rfl
end Go.Proofs.YtcajofhafpkbdaaGreatDoor.Flow
