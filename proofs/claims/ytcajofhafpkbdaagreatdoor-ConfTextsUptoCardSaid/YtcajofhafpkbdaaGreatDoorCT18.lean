/- The texts G13, J2, D4, D5, D8, J3, one behind the other. -/
import Derived.Test.YtcajofhafpkbdaaGreatDoorCT11
import Derived.Test.YtcajofhafpkbdaaGreatDoorCT12
import Derived.Test.YtcajofhafpkbdaaGreatDoorCT16
import Derived.Test.YtcajofhafpkbdaaGreatDoorCT17
import Derived.Lib.Bytealg
namespace Go.Proofs.YtcajofhafpkbdaaGreatDoor.Flow
open Go
theorem zlW (a b c d : Txt) (o n : List Txt) : Weak (.sl 1 3 (chunk 1 [.sl 1 4 (chunk 1 [.s a, .s b, .s c, .s d]), .sl 1 o.length (txF o), .sl 1 n.length (txF n)])) (.sl 1 [[a, b, c, d], o, n].length (txLF [[a, b, c, d], o, n])) :=
  .sl 1 3 _ _ (fun i hi => match i, hi with
    | 0, _ => ⟨rfl, rfl⟩
    | 1, _ => ⟨rfl, rfl⟩
    | 2, _ => ⟨rfl, rfl⟩) fun i j hi hj => match i, j, hi, hj with
    | 0, 0, _, _ => zjc a b c d
    | 1, 0, _, _ => .refl _
    | 2, 0, _, _ => .refl _
set_option maxRecDepth 100000 in
set_option maxHeartbeats 4000000 in
theorem zlX (s : SrcR) (hs : fitS s) : Ctr Tryz.prog 71 [.ag (srcP s)] (.sl 1 (textsS s).length (txF (textsS s))) := by
  obtain ⟨s1, s2, s3⟩ := hs
  have eT : textsS s = [[s.arch, s.csv, s.key, s.attr], s.only, s.notl].flatten ++ s.lays.flatMap pairT := by
    unfold textsS
    simp
  have eL : [[s.arch, s.csv, s.key, s.attr], s.only, s.notl].flatten.length = 4 + s.only.length + s.notl.length := by
    simp
    omega
  have cC := (znd [[s.arch, s.csv, s.key, s.attr], s.only, s.notl] (by simp) (by omega) (by omega)).weakOne (zlW _ _ _ _ _ _)
  rw [eT]
  generalize [[s.arch, s.csv, s.key, s.attr], s.only, s.notl].flatten = l0 at cC eL ⊢
  clear eT
  refine zaE Tryz.func71 rfl Tryz.ntmps71 Tryz.results71 rfl rfl fun X hL hX => ?_
  repeat' (first |refine zoL (f := 103) [] [(105, .row 9 1 l0.length)] [] [105] rfl rfl (by decide) (fun _ h => by cases h) (fun k h _ => by rw [List.mem_singleton.1 h];rfl) rfl rfl Tryz.call103 trivial rfl rfl rfl rfl cC ?_|with_reducible (first |refine zag ?_|refine zaa ?_|refine zaf ?_|refine zad ?_|refine zae ?_)|refine zab rfl rfl True.intro ?_|((first |refine zab rfl rfl ?_ ?_|refine zao rfl rfl ?_ ?_);focus (first |exact le_ rfl|((repeat' refine And.intro ?_ ?_)<;>omega)|((repeat' refine And.intro ?_ ?_)<;>first |omega|rfl)))|fail)
  refine T.loop hL (fun i : Nat => [(1, .pv 1 0), (3, .gs 105 1 (l0 ++ (s.lays.take i).flatMap pairT).length (txF (l0 ++ (s.lays.take i).flatMap pairT))), (26, .sl 2 s.lays.length (fldF s.lays)), (27, .i .i64 s.lays.length), (28, .i .i64 i)]) (fun i => [(1, .var (srcP s)), (105, .row 9 1 (l0 ++ (s.lays.take i).flatMap pairT).length)])
    (fun i => i ≤ s.lays.length ∧ (l0 ++ (s.lays.take i).flatMap pairT).length = l0.length + 2 * i) (fun i => s.lays.length - i) 0 ⟨Nat.zero_le _, by simp⟩
    ⟨⟨rfl, (by rw [List.take_zero, List.flatMap_nil, List.append_nil]; rfl), rfl, rfl, rfl, trivial⟩, ⟨rfl, (by rw [List.take_zero, List.flatMap_nil, List.append_nil]; rfl), trivial⟩, rfl, by rw [hX]; simp⟩ ?_
  clear cC
  rintro i ⟨g1, g2⟩
  try dsimp only at g1 g2 ⊢
  have hnat : (i : Int).toNat = i := Int.toNat_natCast i
  by_cases hil : i < s.lays.length
  · have hil' : (i : Int) < s.lays.length := by omega
    have e := znm hil
    have e2 := zlA (l0 ++ (s.lays.take i).flatMap pairT) (pairT (s.lays.getD (i : Int).toNat ([], []))) (chunk 1 [.s (s.lays.getD (i : Int).toNat ([], [])).1, .s (s.lays.getD (i : Int).toNat ([], [])).2]) (fun i hi => match i, hi with
      | 0, _ => rfl
      | 1, _ => rfl)
    rw [List.append_assoc, show (pairT (s.lays.getD (i : Int).toNat ([], []))).length = 2 from rfl] at e2
    have e3 : l0 ++ (s.lays.take (i + 1)).flatMap pairT = l0 ++ ((s.lays.take i).flatMap pairT ++ pairT (s.lays.getD (i : Int).toNat ([], []))) := by rw [e, hnat]
    have g3 : (l0 ++ (s.lays.take (i + 1)).flatMap pairT).length = (l0 ++ (s.lays.take i).flatMap pairT).length + 2 := by
      rw [e3, ← List.append_assoc, List.length_append (bs := pairT _)]
      rfl
    repeat' (first |with_reducible (first |refine zag ?_|refine zaa ?_|refine zaf ?_|refine zad ?_|refine zah ?_|refine zae ?_|refine zap ?_)|refine zab rfl rfl True.intro ?_|((first |refine zac rfl ?_ ?_)<;>intro<;>try (first |contradiction))|((first |refine zab rfl rfl ?_ ?_|refine zao rfl rfl ?_ ?_|refine zaw rfl ?_ ?_);focus (first |omega|exact le_ rfl|((repeat' refine And.intro ?_ ?_)<;>omega)|((repeat' refine And.intro ?_ ?_)<;>first |omega|rfl|exact Nat.le_refl _)))|fail)
    all_goals exact ⟨i + 1, ⟨by omega, by omega⟩, by omega, ⟨rfl, by rw [g3, e3, ← e2]; rfl, rfl, rfl, rfl, trivial⟩, ⟨rfl, by rw [g3]; rfl, trivial⟩, rfl, by rw [hX]; simp⟩
  have hil' : ¬ (i : Int) < s.lays.length := by omega
  have ea : s.lays.take i = s.lays := List.take_of_length_le (by omega)
  rw [ea]
  repeat' (first |with_reducible (first |refine zag ?_|refine zaa ?_|refine zaf ?_|refine zad ?_|refine zaj ?_|refine zaA ?_|refine zaz ?_)|refine zab rfl rfl True.intro ?_|((first |refine zac rfl ?_ ?_)<;>intro<;>try (first |contradiction))|refine zaO rfl ?_|refine zau rfl ?_|fail)
  all_goals rfl

theorem zkO (pw : List UInt8 → Int) (s : List UInt8) (h : (parseG pw s).2.2 = 0) : 0 < (parseG pw s).2.1 ∧ (parseG pw s).2.1 ≤ s.length := by
  have hd : ∀ i, (dgT s i).length ≤ s.length - i := zcX s
  have hs : ∀ i c, sat s i c → i < s.length := fun i c q => q.1
  have hn : ∀ i, ¬ dgT s i = [] → 0 < (dgT s i).length := fun i q => List.length_pos_iff.2 q
  unfold parseG at h ⊢
  by_cases hw : (whN s (sg0 s)).1 = []
  · rw [if_pos hw] at h
    cases h
  · rw [if_neg hw] at h ⊢
    dsimp only at h ⊢
    have w1 : 0 < (whN s (sg0 s)).2 ∧ (whN s (sg0 s)).2 ≤ s.length := by
      unfold whN at hw ⊢
      by_cases q : sat s (sg0 s) 48
      · rw [if_pos q]
        have := hs _ _ q
        dsimp only
        omega
      · rw [if_neg q] at hw ⊢
        have := hn _ hw
        have := hd (sg0 s)
        dsimp only
        omega
    have w2 : (whN s (sg0 s)).2 ≤ (frN s (whN s (sg0 s)).2).2 ∧ (frN s (whN s (sg0 s)).2).2 ≤ s.length := by
      unfold frN
      generalize (whN s (sg0 s)).2 = a at *
      by_cases q : sat s a 46 ∧ ¬ dgT s (a + 1) = []
      · rw [if_pos q]
        have := hs _ _ q.1
        have := hn _ q.2
        have := hd (a + 1)
        dsimp only
        omega
      · rw [if_neg q]
        exact ⟨Nat.le_refl _, w1.2⟩
    have w3 : (frN s (whN s (sg0 s)).2).2 ≤ (exN pw s (frN s (whN s (sg0 s)).2).2).2 ∧ (exN pw s (frN s (whN s (sg0 s)).2).2).2 ≤ s.length := by
      unfold exN
      generalize (frN s (whN s (sg0 s)).2).2 = a at *
      by_cases q : (sat s a 101 ∨ sat s a 69) ∧ ¬ dgT s (sgN s (a + 1)) = []
      · rw [if_pos q]
        have := hn _ q.2
        have := hd (sgN s (a + 1))
        have h5 : a + 1 ≤ sgN s (a + 1) := by
          unfold sgN
          split <;> omega
        dsimp only
        omega
      · rw [if_neg q]
        exact ⟨Nat.le_refl _, w2.2⟩
    generalize hx : exN pw s (frN s (whN s (sg0 s)).2).2 = x at *
    by_cases hr : (normF (decide (sat s 0 45)) ((whN s (sg0 s)).1 ++ (frN s (whN s (sg0 s)).2).1) (x.1 - (frN s (whN s (sg0 s)).2).1.length)).2 = 0
    · rw [if_pos hr]
      dsimp only
      omega
    · rw [if_neg hr] at h
      exact absurd h hr
theorem zsV {s : List UInt8} {i n : Nat} {x : J} (hi : i ≤ s.length) (h : jnum s i = .inl (x, n)) : i < n ∧ n ≤ s.length := by
  unfold jnum at h
  split at h
  · rename_i hz
    have := zkO powP _ hz
    rw [List.length_drop] at this
    cases h
    omega
  · cases h
theorem zil {s w : List UInt8} {i n : Nat} {x y : J} (hw : 0 < w.length) (hi : i ≤ s.length) (h : jword s i w x = .inl (y, n)) : i < n ∧ n ≤ s.length := by
  unfold jword at h
  split at h
  · rename_i hz
    have : w.length ≤ (s.drop i).length := by
      unfold Lib.hasPrefix at hz
      exact (List.isPrefixOf_iff_prefix.1 hz).length_le
    rw [List.length_drop] at this
    cases h
    omega
  · cases h
theorem zki {s k : List UInt8} {ks : List (List UInt8)} {i n : Nat} (hi : i ≤ s.length) (h : jkey s i ks = .inl (k, n)) : i < n ∧ n ≤ s.length := by
  unfold jkey at h
  cases h1 : jpeek s i with
  | inr e => rw [h1] at h; cases h
  | inl j =>
    rw [h1] at h
    have q1 := zaV hi h1
    dsimp only at h
    split at h
    · cases h
    · cases h2 : jtext s j with
      | inr e => rw [h2] at h; cases h
      | inl r =>
        obtain ⟨k2, n2⟩ := r
        rw [h2] at h
        have q2 := zhV h2
        dsimp only at h
        split at h
        · cases h
        · cases h3 : jpeek s n2 with
          | inr e => rw [h3] at h; cases h
          | inl m =>
            rw [h3] at h
            have q3 := zaV q2.2 h3
            dsimp only at h
            split at h
            · cases h
            · cases h
              omega
theorem zcL {s : List UInt8} {mp : Bool} {ks ks' : List (List UInt8)} {i n : Nat} (hi : i ≤ s.length) (h : jkeys s mp i ks = .inl (ks', n)) : i ≤ n ∧ n ≤ s.length := by
  unfold jkeys at h
  cases mp with
  | false =>
    cases h
    exact ⟨Nat.le_refl _, hi⟩
  | true =>
    rw [if_pos rfl] at h
    cases h1 : jkey s i ks with
    | inr e => rw [h1] at h; cases h
    | inl r =>
      obtain ⟨k, m⟩ := r
      rw [h1] at h
      have := zki hi h1
      cases h
      omega
def ValOk (s : List UInt8) (val : Nat → JR) : Prop := ∀ i x n, i ≤ s.length → val i = .inl (x, n) → i < n ∧ n ≤ s.length
theorem zdV {s : List UInt8} {val : Nat → JR} (hv : ValOk s val) {mp : Bool} {i : Nat} (hi : i ≤ s.length) (l : List J) (ks : List (List UInt8)) : jgo s val mp i l ks =
    match jkeys s mp i ks with
    | .inr e => .inr e
    | .inl (ks', i1) =>
      match val i1 with
      | .inr e => .inr e
      | .inl (x, i2) =>
        match jpeek s i2 with
        | .inr e => .inr e
        | .inl i3 => if at' s i3 = endM mp then .inl (manyV mp (l ++ [x]) ks', i3 + 1)
          else if at' s i3 = 44 then jgo s val mp (i3 + 1) (l ++ [x]) ks' else .inr (i3, 3) := by
  conv => lhs; rw [jgo]
  cases h1 : jkeys s mp i ks with
  | inr e => rfl
  | inl r =>
    obtain ⟨ks', i1⟩ := r
    have q1 := zcL hi h1
    dsimp only
    cases h2 : val i1 with
    | inr e => rfl
    | inl r =>
      obtain ⟨x, i2⟩ := r
      have q2 := hv _ _ _ q1.2 h2
      dsimp only
      cases h3 : jpeek s i2 with
      | inr e => rfl
      | inl i3 =>
        have q3 := zaV q2.2 h3
        dsimp only
        rw [if_pos (show i ≤ i3 ∧ i3 < s.length by omega)]
theorem ztA {s : List UInt8} {val : Nat → JR} (hv : ValOk s val) {mp : Bool} : ∀ (m i : Nat) (l : List J) (ks : List (List UInt8)) (x : J) (n : Nat), s.length - i ≤ m → i ≤ s.length → jgo s val mp i l ks = .inl (x, n) → i < n ∧ n ≤ s.length := by
  intro m
  induction m with
  | zero =>
    intro i l ks x n hm hi h
    rw [zdV hv hi] at h
    cases h1 : jkeys s mp i ks with
    | inr e => rw [h1] at h; cases h
    | inl r =>
      obtain ⟨ks', i1⟩ := r
      rw [h1] at h
      have q1 := zcL hi h1
      dsimp only at h
      cases h2 : val i1 with
      | inr e => rw [h2] at h; cases h
      | inl r =>
        obtain ⟨y, i2⟩ := r
        have q2 := hv _ _ _ q1.2 h2
        omega
  | succ m ih =>
    intro i l ks x n hm hi h
    rw [zdV hv hi] at h
    cases h1 : jkeys s mp i ks with
    | inr e => rw [h1] at h; cases h
    | inl r =>
      obtain ⟨ks', i1⟩ := r
      rw [h1] at h
      have q1 := zcL hi h1
      dsimp only at h
      cases h2 : val i1 with
      | inr e => rw [h2] at h; cases h
      | inl r =>
        obtain ⟨y, i2⟩ := r
        rw [h2] at h
        have q2 := hv _ _ _ q1.2 h2
        dsimp only at h
        cases h3 : jpeek s i2 with
        | inr e => rw [h3] at h; cases h
        | inl i3 =>
          rw [h3] at h
          have q3 := zaV q2.2 h3
          dsimp only at h
          split at h
          · cases h
            omega
          · split at h
            · have := ih _ _ _ _ _ (by omega) (by omega) h
              omega
            · cases h
theorem zld {s : List UInt8} {val : Nat → JR} (hv : ValOk s val) {mp : Bool} {i n : Nat} {x : J} (hi : i < s.length) (h : jmany s val mp i = .inl (x, n)) : i < n ∧ n ≤ s.length := by
  unfold jmany at h
  cases h1 : jpeek s (i + 1) with
  | inr e => rw [h1] at h; cases h
  | inl j =>
    rw [h1] at h
    have q := zaV hi h1
    dsimp only at h
    split at h
    · cases h
      omega
    · have := ztA hv _ _ _ _ _ _ (Nat.le_refl _) (by omega) h
      omega
theorem zcb (s : List UInt8) : ∀ d, ValOk s (jval s d) := by
  intro d
  induction d with
  | zero =>
    intro i x n hi h
    unfold jval at h
    split at h <;> cases h
  | succ d ih =>
    intro i x n hi h
    unfold jval at h
    cases h1 : jpeek s i with
    | inr e => rw [h1] at h; cases h
    | inl j =>
      rw [h1] at h
      have q := zaV hi h1
      dsimp only at h
      have key : j < n ∧ n ≤ s.length := by
        split at h
        · exact zil (by decide) (by omega) h
        · split at h
          · exact zil (by decide) (by omega) h
          · split at h
            · exact zil (by decide) (by omega) h
            · split at h
              · cases h2 : jtext s j with
                | inr e => rw [h2] at h; cases h
                | inl r =>
                  obtain ⟨t, m⟩ := r
                  rw [h2] at h
                  have := zhV h2
                  cases h
                  exact this
              · split at h
                · exact zld ih q.2.1 h
                · split at h
                  · exact zld ih q.2.1 h
                  · exact zsV (by omega) h
      omega

abbrev pO (s : List UInt8) (i : Int) : Ow := [(5, .var [.i .i64 i]), (1, .var [.s s])]
abbrev pF : D := .fn 135 [.pv 5 0, .pv 1 0]
abbrev pO3 (s : List UInt8) (i : Int) : Ow := [(5, .var [.i .i64 i]), (6, .var [pF]), (1, .var [.s s])]
theorem znx (set : List UInt8) (p : Int → Prop) [DecidablePred p] (hp : ∀ c : Int, 0 ≤ c → c < 256 → (0 ≤ Lib.indexByte set c.toNat.toUInt8 ↔ p c)) (s : List UInt8) (i : Nat) (_hs : s.length ≤ 1048576) (hi : i ≤ s.length) :
    CtrO Tryz.prog 135 [.s set, .pv 5 0, .pv 1 0] (pO s i) (.b (decide (i < s.length ∧ p (at' s i)))) (pO s i) := by
  have hr := zaH s i
  have h1 := hp (at' s i) hr.1 hr.2
  have c1 := zeF set (at' s i)
  generalize Lib.indexByte set (at' s i).toNat.toUInt8 = z at h1 c1
  refine zaI Tryz.func135 rfl Tryz.ntmps135 Tryz.results135 rfl rfl rfl rfl rfl fun X hL hX => ?_
  repeat' (first |with_reducible (first |refine zag ?_|refine zaa ?_|refine zaf ?_|refine zad ?_|refine zaj ?_)|refine zab rfl rfl True.intro ?_|refine zat rfl rfl rfl ?_|refine zak rfl rfl rfl rfl True.intro ?_|((first |refine zan rfl rfl ?_ ?_)<;>intro)|((first |refine zab rfl rfl ?_ ?_|refine zak rfl rfl rfl rfl ?_ ?_);focus (first |omega|exact le_ rfl|((repeat' refine And.intro ?_ ?_)<;>omega)))|refine zbb rfl ?_ ?_|refine zaK (f := 82) rfl rfl rfl rfl Tryz.call82 rfl c1 ?_|fail)
  · exact congrArg D.b (decide_eq_decide.2 ⟨fun h => ⟨by omega, h1.1 h⟩, fun h => h1.2 h.2⟩)
  · exact ⟨⟨rfl, rfl, trivial⟩⟩
  · rw [decide_eq_false (fun h => ‹¬ (i : Int) < s.length› (by omega))]
  · exact ⟨⟨rfl, rfl, trivial⟩⟩
theorem zgr (a : UInt8) (c : Int) (h0 : 0 ≤ c) (h1 : c < 256) : 0 ≤ Lib.indexByte [a] c.toNat.toUInt8 ↔ c = (a.toNat : Int) := by
  have e : (a == c.toNat.toUInt8) = decide (c = (a.toNat : Int)) := by
    rw [Bool.eq_iff_iff, beq_iff_eq, decide_eq_true_iff]
    constructor
    · rintro rfl
      have : c.toNat < 256 := by omega
      simp [Nat.toUInt8]
      omega
    · rintro rfl
      simp [Nat.toUInt8]
  unfold Lib.indexByte
  rw [e]
  by_cases h : c = (a.toNat : Int)
  · simp [h]
  · simp [h, Lib.indexByte]
theorem zbh (a : UInt8) (l : List UInt8) (c : Int) (h0 : 0 ≤ c) (h1 : c < 256) : 0 ≤ Lib.indexByte (a :: l) c.toNat.toUInt8 ↔ c = (a.toNat : Int) ∨ 0 ≤ Lib.indexByte l c.toNat.toUInt8 := by
  have e : (a == c.toNat.toUInt8) = decide (c = (a.toNat : Int)) := by
    rw [Bool.eq_iff_iff, beq_iff_eq, decide_eq_true_iff]
    constructor
    · rintro rfl
      have : c.toNat < 256 := by omega
      simp [Nat.toUInt8]
      omega
    · rintro rfl
      simp [Nat.toUInt8]
  have hg := Lib.indexByte_ge l c.toNat.toUInt8
  conv => lhs; unfold Lib.indexByte
  rw [e]
  generalize Lib.indexByte l c.toNat.toUInt8 = z at *
  by_cases h : c = (a.toNat : Int)
  · simp [h]
  · by_cases hz : z = -1
    · simp [h, hz]
    · simp [h, hz]
      omega
theorem zma : ∀ c : Int, 0 ≤ c → c < 256 → (0 ≤ Lib.indexByte ({ data := #[48, 49, 50, 51, 52, 53, 54, 55, 56, 57] } : ByteArray).data.toList c.toNat.toUInt8 ↔ 48 ≤ c ∧ c ≤ 57) := fun c h0 h1 => by
  show 0 ≤ Lib.indexByte [48, 49, 50, 51, 52, 53, 54, 55, 56, 57] c.toNat.toUInt8 ↔ _
  rw [zbh _ _ _ h0 h1, zbh _ _ _ h0 h1, zbh _ _ _ h0 h1, zbh _ _ _ h0 h1, zbh _ _ _ h0 h1, zbh _ _ _ h0 h1, zbh _ _ _ h0 h1, zbh _ _ _ h0 h1, zbh _ _ _ h0 h1, zgr _ _ h0 h1]
  simp
  omega
theorem set_1 (a : UInt8) : ∀ c : Int, 0 ≤ c → c < 256 → (0 ≤ Lib.indexByte [a] c.toNat.toUInt8 ↔ c = (a.toNat : Int)) := fun c h0 h1 => zgr a c h0 h1
theorem set_2 (a b : UInt8) : ∀ c : Int, 0 ≤ c → c < 256 → (0 ≤ Lib.indexByte [a, b] c.toNat.toUInt8 ↔ c = (a.toNat : Int) ∨ c = (b.toNat : Int)) := fun c h0 h1 => by rw [zbh _ _ _ h0 h1, zgr _ _ h0 h1]

theorem zdF (s : List UInt8) (i : Nat) (hs : s.length ≤ 1048576) (hi : i ≤ s.length) :
    CtrO Tryz.prog 136 [.pv 5 0, .pv 6 0, .pv 1 0] (pO3 s i) (.s (dgT s i)) (pO3 s ((i + (dgT s i).length : Nat) : Int)) := by
  refine zaI Tryz.func136 rfl Tryz.ntmps136 Tryz.results136 rfl rfl rfl rfl rfl fun X hL hX => ?_
  repeat' (first |with_reducible (first |refine zag ?_|refine zaa ?_|refine zaf ?_|refine zad ?_|refine zae ?_)|refine zab rfl rfl True.intro ?_|((first |refine zab rfl rfl ?_ ?_);focus (first |exact le_ rfl|((repeat' refine And.intro ?_ ?_)<;>omega)))|fail)
  refine T.loop hL (fun k : Nat => [(0, .pv 5 0), (1, .pv 6 0), (2, .pv 1 0), (4, .i .i64 i)]) (fun k => pO3 s k) (fun k => i ≤ k ∧ k ≤ s.length ∧ k + (dgT s k).length = i + (dgT s i).length) (fun k => s.length - k) i ⟨Nat.le_refl _, hi, rfl⟩
    ⟨⟨rfl, rfl, rfl, rfl, trivial⟩, ⟨rfl, rfl, rfl, trivial⟩, rfl, by rw [hX]; intro k hk; exact hk⟩ ?_
  rintro k ⟨g1, g2, g3⟩
  have c1 := znx _ (fun c => 48 ≤ c ∧ c ≤ 57) zma s k hs g2
  by_cases hd : k < s.length ∧ 48 ≤ at' s k ∧ at' s k ≤ 57
  · rw [decide_eq_true (by exact hd)] at c1
    have h2 := zpN hd.1 hd.2
    have g3 := fun _ : Unit => g3
    repeat' (first |with_reducible (first |refine zag ?_|refine zaa ?_|refine zaf ?_|refine zad ?_|refine zah ?_|refine zae ?_|refine zap ?_)|refine zav rfl ?_|((first |refine zab rfl rfl ?_ ?_|refine zaw rfl ?_ ?_);focus (first |omega|exact le_ rfl|((repeat' refine And.intro ?_ ?_)<;>omega)|((repeat' refine And.intro ?_ ?_)<;>first |rfl|exact Nat.le_refl _)))|refine zax (f := 135) 5 1 rfl rfl Tryz.call135 rfl rfl rfl rfl rfl rfl rfl rfl rfl c1 ?_|fail)
    exact ⟨k + 1, ⟨by omega, by omega, by rw [← g3 (), h2, List.length_cons]; omega⟩, by omega, ⟨rfl, rfl, rfl, rfl, trivial⟩, ⟨rfl, rfl, rfl, trivial⟩, rfl, by rw [hX]; intro k hk; exact hk⟩
  · rw [decide_eq_false (by exact hd)] at c1
    have h2 : dgT s k = [] := zqL (by
      by_cases h : k < s.length
      · exact .inr (fun h3 => hd ⟨h, h3⟩)
      · exact .inl h)
    rw [h2] at g3
    have hk : k = i + (dgT s i).length := by simpa using g3
    have hcut := fun _ : Unit => zsi s i
    subst hk
    clear g3 h2
    repeat' (first |with_reducible (first |refine zag ?_|refine zaa ?_|refine zaf ?_|refine zad ?_|refine zaj ?_|refine zaA ?_|refine zaz ?_)|refine zab rfl rfl True.intro ?_|refine zal rfl ?_|((first |refine zab rfl rfl ?_ ?_);focus (first |omega|exact le_ rfl|((repeat' refine And.intro ?_ ?_)<;>omega)))|refine zaO rfl ?_|refine zbb rfl ?_ ?_|refine zax (f := 135) 5 1 rfl rfl Tryz.call135 rfl rfl rfl rfl rfl rfl rfl rfl rfl c1 ?_|fail)
    · exact congrArg D.s (by rw [Int.toNat_natCast, Int.toNat_natCast]; exact hcut ())
    · exact ⟨⟨rfl, rfl, rfl, trivial⟩⟩
theorem zjC (l : List UInt8) (c : UInt8) : powP (l ++ [c]) = min (10 * powP l + ((c.toNat : Int) - 48)) 1099511627776 := by simp [powP]
theorem znX (x : List UInt8) (hx : ∀ c ∈ x, isD c = true) (hs : x.length ≤ 1048576) : Ctr Tryz.prog 137 [.s x] (.i .i64 (powP x)) := by
  refine zaE Tryz.func137 rfl Tryz.ntmps137 Tryz.results137 rfl rfl fun X hL hX => ?_
  repeat' (first |with_reducible (first |refine zag ?_|refine zaa ?_|refine zaf ?_|refine zad ?_|refine zae ?_)|refine zab rfl rfl True.intro ?_|fail)
  refine T.loop hL (fun y : Nat × Int => [(0, .s x), (3, .i .i64 y.2), (6, .i .i64 x.length), (7, .i .i64 y.1)]) (fun _ => []) (fun y => y.1 ≤ x.length ∧ 0 ≤ y.2 ∧ y.2 ≤ 1099511627776 ∧ y.2 = powP (x.take y.1)) (fun y => x.length - y.1) (0, 0) ⟨Nat.zero_le _, by decide, by decide, rfl⟩
    ⟨⟨rfl, rfl, rfl, rfl, trivial⟩, trivial, rfl, by rw [hX]; intro k hk; cases hk⟩ ?_
  rintro ⟨i, n⟩ ⟨g1, g2, g3, g4⟩
  dsimp only at g1 g2 g3 g4 ⊢
  have hd : i < x.length → 48 ≤ at' x i ∧ at' x i ≤ 57 := fun h => zbE.1 (hx _ (by simp [List.getD_eq_getElem?_getD, h]))
  have g4 := fun _ : Unit => g4
  have hw : i < x.length → IntKind.i64.wrap (IntKind.u8.wrap (at' x i - 48)) = at' x i - 48 := fun h => by
    have := hd h
    rw [zcp, wi6_]
    omega
  by_cases hi : i < x.length
  · have hw := hw hi
    have hd := hd hi
    repeat' (first |with_reducible (first |refine zag ?_|refine zaa ?_|refine zaf ?_|refine zad ?_|refine zah ?_|refine zae ?_|refine zap ?_)|refine zab rfl rfl True.intro ?_|((first |refine zac rfl ?_ ?_)<;>intro<;>try (first |(exfalso;omega)))|((first |refine zab rfl rfl ?_ ?_);focus (first |(rw [hw];(repeat' refine And.intro ?_ ?_)<;>omega)|omega|((repeat' refine And.intro ?_ ?_)<;>omega)))|fail)
    refine ⟨(i + 1, min (10 * n + IntKind.i64.wrap (IntKind.u8.wrap (at' x i - 48))) 1099511627776), ⟨by dsimp only; omega, by dsimp only; omega, by dsimp only; omega, ?_⟩, by dsimp only; omega, ⟨rfl, rfl, rfl, rfl, trivial⟩, trivial, rfl, by rw [hX]; intro k hk; cases hk⟩
    dsimp only
    rw [hw, ziJ x i hi, zjC, ← g4 ()]
    rfl
  ·
    repeat' (first |with_reducible (first |refine zag ?_|refine zaa ?_|refine zaf ?_|refine zad ?_|refine zaj ?_|refine zaA ?_|refine zaz ?_)|refine zab rfl rfl True.intro ?_|((first |refine zac rfl ?_ ?_)<;>intro<;>try (first |(exfalso;omega)))|refine zaO rfl ?_|refine zau rfl ?_|fail)
    rw [g4 (), List.take_of_length_le (by omega)]

abbrev pOw (s : List UInt8) (i : Int) : Ow := [(5, .var [.i .i64 i]), (6, .var [pF]), (1, .var [.s s]), (2, .var [.b false, .s [], .i .i64 0])]
abbrev pG : D := .fn 136 [.pv 5 0, .pv 6 0, .pv 1 0]
theorem zia (a : UInt8) (n : Int) (hn : (a.toNat : Int) = n) (s : List UInt8) (i : Nat) (hs : s.length ≤ 1048576) (hi : i ≤ s.length) : CtrO Tryz.prog 135 [.s [a], .pv 5 0, .pv 1 0] (pO s i) (.b (decide (sat s i n))) (pO s i) := by
  subst hn
  exact znx [a] (fun c => c = (a.toNat : Int)) (set_1 a) s i hs hi
theorem zom (a b : UInt8) (n m : Int) (hn : (a.toNat : Int) = n) (hm : (b.toNat : Int) = m) (s : List UInt8) (i : Nat) (hs : s.length ≤ 1048576) (hi : i ≤ s.length) : CtrO Tryz.prog 135 [.s [a, b], .pv 5 0, .pv 1 0] (pO s i) (.b (decide (sat s i n ∨ sat s i m))) (pO s i) := by
  subst hn hm
  have := znx [a, b] (fun c => c = (a.toNat : Int) ∨ c = (b.toNat : Int)) (set_2 a b) s i hs hi
  rwa [show decide (i < s.length ∧ (at' s i = (a.toNat : Int) ∨ at' s i = (b.toNat : Int))) = decide (sat s i (a.toNat : Int) ∨ sat s i (b.toNat : Int)) from decide_eq_decide.2 (by unfold sat; constructor <;> intro h <;> omega)] at this
section
variable {s : List UInt8} {i : Nat}
theorem zno (h : sat s i 48) : whN s i = ([48], i + 1) := if_pos h
theorem zoU (h : ¬ sat s i 48) : whN s i = (dgT s i, i + (dgT s i).length) := if_neg h
theorem ztD (h : i ≤ s.length) : (whN s i).2 ≤ s.length := by
  have := zcX s i
  unfold whN
  split
  · rename_i h1
    have := h1.1
    dsimp only
    omega
  · dsimp only
    omega
theorem znj (h : sat s i 46) (h2 : ¬ dgT s (i + 1) = []) : frN s i = (dgT s (i + 1), i + 1 + (dgT s (i + 1)).length) := if_pos ⟨h, h2⟩
theorem zon (h : ¬ sat s i 46 ∨ dgT s (i + 1) = []) : frN s i = ([], i) := if_neg fun h2 => by
  rcases h with h | h
  · exact h h2.1
  · exact h2.2 h
theorem ztU (h : i ≤ s.length) : (frN s i).2 ≤ s.length := by
  have := zcX s (i + 1)
  unfold frN
  split
  · rename_i h1
    have := h1.1.1
    dsimp only
    omega
  · exact h
theorem zkt {pw : List UInt8 → Int} (h : ¬ (sat s i 101 ∨ sat s i 69) ∨ dgT s (sgN s (i + 1)) = []) : exN pw s i = (0, i) := if_neg fun h2 => by
  rcases h with h | h
  · exact h h2.1
  · exact h2.2 h
theorem zkv {pw : List UInt8 → Int} (h : sat s i 101 ∨ sat s i 69) (h2 : ¬ dgT s (sgN s (i + 1)) = []) : exN pw s i = (if sat s (i + 1) 45 then -pw (dgT s (sgN s (i + 1))) else pw (dgT s (sgN s (i + 1))), sgN s (i + 1) + (dgT s (sgN s (i + 1))).length) := if_pos ⟨h, h2⟩
theorem ztv : sg0 s ≤ s.length := by
  unfold sg0
  split
  · rename_i h
    exact h.1
  · exact Nat.zero_le _
end
set_option maxHeartbeats 4000000 in
theorem zoF (s : List UInt8) (hs : s.length ≤ 1048576) : Ctr Tryz.prog 111 [.s s] (.tu [dcV (parseG powP s).1, .i .i64 (parseG powP s).2.1, .i .i64 (parseG powP s).2.2]) := by
  generalize hR : parseG powP s = R
  unfold parseG at hR
  replace hR := fun _ : Unit => hR.symm
  refine zaE Tryz.func111 rfl Tryz.ntmps111 Tryz.results111 rfl rfl fun X hL hX => ?_
  have c1 := zia 45 45 rfl s 0 hs (Nat.zero_le _)
  have e5 : sat s 0 45 → (0 : Int) + 1 = (sg0 s : Int) := fun h => by unfold sg0; rw [if_pos h]; rfl
  have e5' : ¬ sat s 0 45 → (0 : Int) = (sg0 s : Int) := fun h => by unfold sg0; rw [if_neg h]; rfl
  repeat' (first |refine ziT 5 hL (fun _ : Unit => [(2, .pv 2 0), (5, .pv 5 0), (6, .pv 6 0), (7, pG), (8, .b (decide (sat s 0 45)))]) (fun _ => pOw s (sg0 s)) (fun _ => True) ?_ ?_|with_reducible (first |refine zag ?_|refine zaa ?_|refine zaf ?_|refine zad ?_|refine zah ?_)|refine zab rfl rfl True.intro ?_|((first |refine zac rfl ?_ ?_)<;>intro)|((first |refine zab rfl rfl ?_ ?_|refine zao rfl rfl ?_ ?_|refine zaw rfl ?_ ?_);focus (first |omega|exact le_ rfl|((repeat' refine And.intro ?_ ?_)<;>omega)|((repeat' refine And.intro ?_ ?_)<;>first |rfl|exact Nat.le_refl _)))|refine zax (f := 135) 5 1 rfl rfl Tryz.call135 rfl rfl rfl rfl rfl rfl rfl rfl rfl c1 ?_|fail)
  · exact ⟨(), trivial, ⟨rfl, rfl, rfl, rfl, rfl, trivial⟩, ⟨congrArg (fun x => some (Own.var [.i .i64 x])) (e5 ‹_›), rfl, rfl, rfl, trivial⟩, rfl, by rw [hX]; intro k hk; cases hk⟩
  · exact ⟨(), trivial, ⟨rfl, rfl, rfl, rfl, rfl, trivial⟩, ⟨congrArg (fun x => some (Own.var [.i .i64 x])) (e5' ‹_›), rfl, rfl, rfl, trivial⟩, rfl, by rw [hX]; intro k hk; cases hk⟩
  clear c1 e5 e5'
  intro _ _
  have hi := ztv (s := s)
  generalize sg0 s = i at hR hi ⊢
  have c1 := zia 48 48 rfl s i hs hi
  have c2 := zdF s i hs hi
  have L1 := fun h => zno (s := s) (i := i) h
  have L2 := fun h => zoU (s := s) (i := i) h
  repeat' (first |refine ziT 8 hL (fun _ : Unit => [(2, .pv 2 0), (5, .pv 5 0), (6, .pv 6 0), (7, pG), (8, .b (decide (sat s 0 45))), (9, .s (whN s i).1)]) (fun _ => pOw s (whN s i).2) (fun _ => ¬ (whN s i).1 = []) ?_ ?_|with_reducible (first |refine zag ?_|refine zaa ?_|refine zaf ?_|refine zad ?_|refine zaj ?_|refine zah ?_|refine zam ?_)|refine zab rfl rfl True.intro ?_|((first |refine zac rfl ?_ ?_|refine zbJ rfl ?_ ?_)<;>intro)|((first |refine zab rfl rfl ?_ ?_|refine zaw rfl ?_ ?_);focus (first |omega|exact le_ rfl|((repeat' refine And.intro ?_ ?_)<;>omega)|((repeat' refine And.intro ?_ ?_)<;>first |rfl|exact Nat.le_refl _)))|refine zau rfl ?_|refine zax (f := 135) 5 1 rfl rfl Tryz.call135 rfl rfl rfl rfl rfl rfl rfl rfl rfl c1 ?_|refine zhY (f := 136) 5 6 1 rfl rfl Tryz.call136 rfl rfl rfl rfl rfl rfl rfl rfl rfl rfl rfl rfl c2 ?_|fail)
  · rw [L1 ‹_›]
    exact ⟨(), by simp, ⟨rfl, rfl, rfl, rfl, rfl, rfl, trivial⟩, ⟨rfl, rfl, rfl, rfl, trivial⟩, rfl, by rw [hX]; intro k hk; cases hk⟩
  · rename_i h1 h2
    rw [hR (), if_pos (by rw [L2 h1]; exact h2)]
    rfl
  · rename_i h1 h2
    rw [L2 h1]
    exact ⟨(), h2, ⟨rfl, rfl, rfl, rfl, rfl, rfl, trivial⟩, ⟨rfl, rfl, rfl, rfl, trivial⟩, rfl, by rw [hX]; intro k hk; cases hk⟩
  clear c1 c2 L1 L2
  intro _ hw
  replace hR := fun _ : Unit => (hR ()).trans (if_neg hw)
  dsimp only at hR
  have hj := ztD hi
  have lw : (whN s i).1.length ≤ 1048577 := by
    have := zcX s i
    unfold whN
    split <;> dsimp only [List.length_cons, List.length_nil] <;> omega
  generalize whN s i = W at hR hw hj lw ⊢
  obtain ⟨w, j⟩ := W
  dsimp only at hR hw hj lw ⊢
  clear hi hw i
  have c1 := zia 46 46 rfl s j hs hj
  have c2 := fun h : sat s j 46 => zdF s (j + 1) hs h.1
  have L1 := fun h h2 => znj (s := s) (i := j) h h2
  have L2 := fun h => zon (s := s) (i := j) h
  repeat' (first |refine ziT 15 hL (fun _ : Unit => [(2, .pv 2 0), (5, .pv 5 0), (6, .pv 6 0), (7, pG), (8, .b (decide (sat s 0 45))), (9, .s w), (10, .s (frN s j).1)]) (fun _ => pOw s (frN s j).2) (fun _ => True) ?_ ?_|with_reducible (first |refine zag ?_|refine zaa ?_|refine zaf ?_|refine zad ?_|refine zah ?_)|refine zab rfl rfl True.intro ?_|((first |refine zac rfl ?_ ?_|refine zbJ rfl ?_ ?_)<;>intro)|((first |refine zab rfl rfl ?_ ?_|refine zaw rfl ?_ ?_);focus (first |omega|exact le_ rfl|((repeat' refine And.intro ?_ ?_)<;>omega)|((repeat' refine And.intro ?_ ?_)<;>first |rfl|exact Nat.le_refl _)))|refine zax (f := 135) 5 1 rfl rfl Tryz.call135 rfl rfl rfl rfl rfl rfl rfl rfl rfl c1 ?_|refine zhY (f := 136) 5 6 1 rfl rfl Tryz.call136 rfl rfl rfl rfl rfl rfl rfl rfl rfl rfl rfl rfl (c2 ‹_›) ?_|fail)
  · rename_i h1 h2
    rw [L2 (.inr h2)]
    exact ⟨(), trivial, ⟨rfl, rfl, rfl, rfl, rfl, rfl, congrArg D.s h2, trivial⟩, ⟨rfl, rfl, rfl, rfl, trivial⟩, rfl, by rw [hX]; intro k hk; cases hk⟩
  · rename_i h1 h2
    rw [L1 h1 h2]
    exact ⟨(), trivial, ⟨rfl, rfl, rfl, rfl, rfl, rfl, rfl, trivial⟩, ⟨rfl, rfl, rfl, rfl, trivial⟩, rfl, by rw [hX]; intro k hk; cases hk⟩
  · rename_i h1
    rw [L2 (.inl h1)]
    exact ⟨(), trivial, ⟨rfl, rfl, rfl, rfl, rfl, rfl, rfl, trivial⟩, ⟨rfl, rfl, rfl, rfl, trivial⟩, rfl, by rw [hX]; intro k hk; cases hk⟩
  clear c1 c2 L1 L2
  intro _ _
  have hk := ztU hj
  have lf : (frN s j).1.length ≤ 1048577 := by
    have := zcX s (j + 1)
    unfold frN
    split <;> dsimp only [List.length_cons, List.length_nil] <;> omega
  generalize frN s j = W at hR hk lf ⊢
  obtain ⟨f, k⟩ := W
  dsimp only at hR hk lf ⊢
  have c1 := zom 101 69 101 69 rfl rfl s k hs hk
  have c2 := fun h : k + 1 ≤ s.length => zia 45 45 rfl s (k + 1) hs h
  have c3 := fun h : k + 1 ≤ s.length => zom 43 45 43 45 rfl rfl s (k + 1) hs h
  have c4a := fun (h : k + 1 ≤ s.length) (h2 : sat s (k + 1) 43 ∨ sat s (k + 1) 45) => zdF s (k + 1 + 1) hs (by rcases h2 with h2 | h2; exact h2.1; exact h2.1)
  have c4b := fun (h : k + 1 ≤ s.length) (_ : ¬ (sat s (k + 1) 43 ∨ sat s (k + 1) 45)) => zdF s (k + 1) hs h
  have c5 := fun p => znX (dgT s p) (ziF _ _) (by have := zcX s p; omega)
  have hp := fun p => (⟨(ztZ (dgT s p) (ziF _ _)).1, zoh (dgT s p) 0 (by omega)⟩ : 0 ≤ powP (dgT s p) ∧ powP (dgT s p) ≤ 1099511627776)
  have hp1 := hp (k + 1)
  have hp2 := hp (k + 1 + 1)
  have hs1 : (sat s k 101 ∨ sat s k 69) → k + 1 ≤ s.length := fun h => by
    rcases h with h | h
    · exact h.1
    · exact h.1
  have g1 : (sat s (k + 1) 43 ∨ sat s (k + 1) 45) → sgN s (k + 1) = k + 1 + 1 := fun h => if_pos h
  have g2 : ¬ (sat s (k + 1) 43 ∨ sat s (k + 1) 45) → sgN s (k + 1) = k + 1 := fun h => if_neg h
  have L1 : ∀ p, sgN s (k + 1) = p → (sat s k 101 ∨ sat s k 69) → ¬ dgT s p = [] → exN powP s k = (if sat s (k + 1) 45 then -powP (dgT s p) else powP (dgT s p), p + (dgT s p).length) := fun p hp h h2 => by
    subst hp
    exact zkv h h2
  have L2 : ∀ p, sgN s (k + 1) = p → dgT s p = [] → exN powP s k = (0, k) := fun p hp h => by
    subst hp
    exact zkt (.inr h)
  have L3 := fun h => zkt (s := s) (i := k) (pw := powP) (.inl h)
  repeat' (first |refine ziT 22 hL (fun _ : Unit => [(2, .pv 2 0), (5, .pv 5 0), (8, .b (decide (sat s 0 45))), (9, .s w), (10, .s f), (12, .i .i64 (exN powP s k).1)]) (fun _ => pOw s (exN powP s k).2) (fun _ => True) ?_ ?_|with_reducible (first |refine zag ?_|refine zaa ?_|refine zaf ?_|refine zad ?_|refine zah ?_)|refine zab rfl rfl True.intro ?_|((first |refine zac rfl ?_ ?_|refine zbJ rfl ?_ ?_)<;>intro)|((first |refine zab rfl rfl ?_ ?_|refine zaw rfl ?_ ?_);focus (first |omega|exact le_ rfl|((repeat' refine And.intro ?_ ?_)<;>omega)|((repeat' refine And.intro ?_ ?_)<;>first |rfl|exact Nat.le_refl _)))|refine zax (f := 135) 5 1 rfl rfl Tryz.call135 rfl rfl rfl rfl rfl rfl rfl rfl rfl c1 ?_|refine zax (f := 135) 5 1 rfl rfl Tryz.call135 rfl rfl rfl rfl rfl rfl rfl rfl rfl (c2 (hs1 ‹_›)) ?_|refine zax (f := 135) 5 1 rfl rfl Tryz.call135 rfl rfl rfl rfl rfl rfl rfl rfl rfl (c3 (hs1 ‹_›)) ?_|refine zhY (f := 136) 5 6 1 rfl rfl Tryz.call136 rfl rfl rfl rfl rfl rfl rfl rfl rfl rfl rfl rfl (c4a (hs1 ‹_›) ‹_›) ?_|refine zhY (f := 136) 5 6 1 rfl rfl Tryz.call136 rfl rfl rfl rfl rfl rfl rfl rfl rfl rfl rfl rfl (c4b (hs1 ‹_›) ‹_›) ?_|refine zai (f := 137) rfl rfl Tryz.call137 rfl (c5 _) ?_|fail)
  · rename_i h1 h2 h3
    rw [L2 _ (g1 h2) h3]
    exact ⟨(), trivial, ⟨rfl, rfl, rfl, rfl, rfl, rfl, trivial⟩, ⟨rfl, rfl, rfl, rfl, trivial⟩, rfl, by rw [hX]; intro k hk; cases hk⟩
  · rename_i h1 h2 h3 h4
    rw [L1 _ (g1 h2) h1 h3, if_pos h4]
    exact ⟨(), trivial, ⟨rfl, rfl, rfl, rfl, rfl, rfl, trivial⟩, ⟨rfl, rfl, rfl, rfl, trivial⟩, rfl, by rw [hX]; intro k hk; cases hk⟩
  · rename_i h1 h2 h3 h4
    rw [L1 _ (g1 h2) h1 h3, if_neg h4]
    exact ⟨(), trivial, ⟨rfl, rfl, rfl, rfl, rfl, rfl, trivial⟩, ⟨rfl, rfl, rfl, rfl, trivial⟩, rfl, by rw [hX]; intro k hk; cases hk⟩
  · rename_i h1 h2 h3
    rw [L2 _ (g2 h2) h3]
    exact ⟨(), trivial, ⟨rfl, rfl, rfl, rfl, rfl, rfl, trivial⟩, ⟨rfl, rfl, rfl, rfl, trivial⟩, rfl, by rw [hX]; intro k hk; cases hk⟩
  · rename_i h1 h2 h3 h4
    exact absurd (.inr h4) h2
  · rename_i h1 h2 h3 h4
    rw [L1 _ (g2 h2) h1 h3, if_neg h4]
    exact ⟨(), trivial, ⟨rfl, rfl, rfl, rfl, rfl, rfl, trivial⟩, ⟨rfl, rfl, rfl, rfl, trivial⟩, rfl, by rw [hX]; intro k hk; cases hk⟩
  · rename_i h1
    rw [L3 h1]
    exact ⟨(), trivial, ⟨rfl, rfl, rfl, rfl, rfl, rfl, trivial⟩, ⟨rfl, rfl, rfl, rfl, trivial⟩, rfl, by rw [hX]; intro k hk; cases hk⟩
  clear c1 c2 c3 c4a c4b g1 g2 L1 L2 L3 hs1 hp1 hp2
  intro _ _
  have hx : -1099511627776 ≤ (exN powP s k).1 ∧ (exN powP s k).1 ≤ 1099511627776 := by
    have := hp (sgN s (k + 1))
    unfold exN
    split
    · dsimp only
      split <;> omega
    · dsimp only
      omega
  clear hp c5
  generalize exN powP s k = W at hR hx ⊢
  obtain ⟨x, m⟩ := W
  dsimp only at hR hx ⊢
  have c1 := zlq (decide (sat s 0 45)) (w ++ f) (x - f.length) (by rw [List.length_append]; omega) (by omega) (by omega)
  generalize normF (decide (sat s 0 45)) (w ++ f) (x - f.length) = W at hR c1
  obtain ⟨⟨n1, d1, e1⟩, err⟩ := W
  dsimp only at hR c1
  repeat' (first |with_reducible (first |refine zag ?_|refine zaa ?_|refine zaf ?_|refine zad ?_|refine zaj ?_|refine zah ?_|refine zam ?_|refine zaB ?_)|refine zab rfl rfl True.intro ?_|((first |refine zaC rfl ?_ ?_)<;>intro)|((first |refine zab rfl rfl ?_ ?_|refine zaw rfl ?_ ?_);focus (first |omega|exact le_ rfl|((repeat' refine And.intro ?_ ?_)<;>omega)|((repeat' refine And.intro ?_ ?_)<;>first |rfl|exact Nat.le_refl _)))|with_reducible refine ⟨by kernel_rfl, ?_⟩|refine zau rfl ?_|refine zai (f := 95) rfl rfl Tryz.call95 rfl c1 ?_|fail)
  · rename_i h
    rw [hR (), if_neg h]
    rfl
  · rename_i h
    rw [hR (), if_pos h]
    rfl

def pvS (p : Nat) (e : Int) : Value := .iface 83 (.agg #[.int .i64 p, .int .i64 e])
abbrev rdr (s : List UInt8) (i : Nat) : Ow := [(13, .var [.s s, .i .i64 i])]
def RdE (f : FuncId) (args : List D) (s : List UInt8) (i : Nat) (o : Sum (D × Nat) (Nat × Int)) : Prop :=
  match o with
  | .inl (d, n) => CtrO Tryz.prog f args (rdr s i) d (rdr s n)
  | .inr (p, e) => CtrP Tryz.prog f args (rdr s i) (pvS p e) [(13, .gone)]
section
variable {fr : Fr} {ow : Ow} {f : FuncId} {args : List D} {pv : Value}
def EndsR (rs : List ResultVar) (s : List UInt8) (o : Sum (D × Nat) (Nat × Int)) (e : Exit) (fr : Fr) (ow : Ow) : Prop :=
  match o with
  | .inl (d, n) => EndsM rs d (rdr s n) e fr ow
  | .inr (p, er) => EndsP (pvS p er) [(13, .gone)] e fr ow
theorem zcS {rs : List ResultVar} {d2 : D} {s : List UInt8} {o : Sum (D × Nat) (Nat × Int)} (h : resU B fr ow rs = some d2) (he : Stay (∃ d n, o = .inl (d, n) ∧ Weak d2 d ∧ look 13 ow = some (.var [.s s, .i .i64 (n : Nat)]))) : Rtn (EndsR rs s o) fr ow := by
  unfold Rtn
  obtain ⟨d, n, rfl, hw, hl⟩ := he.out
  exact ⟨d2, h, hw, hl, trivial⟩
theorem zbe {rs : List ResultVar} {s : List UInt8} {o : Sum (D × Nat) (Nat × Int)} (he : Stay (∃ p e, o = .inr (p, e) ∧ pv = pvS p e ∧ ∃ o2, look 13 ow = some o2)) : Pnc pv (EndsR rs s o) fr ow := by
  unfold Pnc
  obtain ⟨p, e, rfl, rfl, hl⟩ := he.out
  exact ⟨rfl, hl, trivial⟩
theorem zfL {fn : Func} {c : Code} {N : Nat} {rs : List ResultVar} {s : List UInt8} {i : Nat} {o : Sum (D × Nat) (Nat × Int)} (hf : Tryz.prog.funcs[f]? = some fn) (hb : fn.body = some c) (hN : fn.ntmps = N) (hrs : fn.results = ⟨rs⟩) (hlen : Nat.ble args.length N = true)
    (hd : ∀ d n, o = .inl (d, n) → d.okIn [13] = true) (h : ∀ X : Ctx, Lent X → X.ids = [13] → T Tryz.prog X N c (slots 0 args) (rdr s i) (EndsR rs s o)) : RdE f args s i o := by
  match o, hd, h with
  | .inl (d, n), hd, h => exact zaI hf hb hN hrs hlen rfl rfl (hd d n rfl) rfl h
  | .inr (p, e), hd, h => exact zeN hf hb hN hlen rfl rfl rfl h
end
theorem zbn (p : Nat) (e : Int) : CtrP Tryz.prog 50 [.i .i64 p, .i .i64 e] [] (pvS p e) [] := by
  refine zeN Tryz.func50 rfl Tryz.ntmps50 rfl rfl rfl rfl fun X hL hX => ?_
  repeat' (first |(refine zbB (id := 0) 4 ?_;dsimp only [splitOp])|refine zqA Tryz.underlying83 rfl rfl ?_|with_reducible (first |refine zaf ?_)|refine zab rfl rfl True.intro ?_|refine zsB rfl ?_|refine zjM rfl trivial|fail)
theorem zre : ∀ n : _root_.Fin 256, decide (0 ≤ Lib.indexByte [32, 9, 10, 13] (n.1 : Int).toNat.toUInt8) = blkB (UInt8.ofNat n.1) := by decide +kernel
theorem ztK (s : List UInt8) (j : Nat) : decide (0 ≤ Lib.indexByte [32, 9, 10, 13] (at' s j).toNat.toUInt8) = blkB (s.getD j 0) := by
  have h := zre ⟨(s.getD j 0).toNat, (s.getD j 0).toNat_lt⟩
  rw [show UInt8.ofNat (s.getD j 0).toNat = s.getD j 0 by simp] at h
  exact h
theorem zqb {s : List UInt8} {i j : Nat} (_h1 : i ≤ j) (h2 : j ≤ skN s i) (h3 : j < s.length) (h4 : blkB (s.getD j 0) = true) : j + 1 ≤ skN s i := by
  rcases Nat.lt_or_ge j (skN s i) with h | h
  · exact h
  · have e : j = skN s i := by omega
    have := zqE (s := s) (i := i) (by omega)
    rw [← e, h4] at this
    cases this
theorem zox {s : List UInt8} {i j : Nat} (h1 : i ≤ j) (h2 : j ≤ skN s i) (h3 : s.length ≤ j ∨ blkB (s.getD j 0) = false) (hi : i ≤ s.length) : skN s i = j := by
  have hle := (zfV hi).2
  rcases h3 with h3 | h3
  · omega
  · rcases Nat.lt_or_ge j (skN s i) with h | h
    · exfalso
      have key : ∀ (q : List UInt8) (k : Nat), k < (q.takeWhile blkB).length → blkB (q.getD k 0) = true := by
        intro q
        induction q with
        | nil => intro k hk; simp at hk
        | cons c q ih =>
          intro k hk
          rw [List.takeWhile_cons] at hk
          by_cases hc : blkB c = true
          · rw [if_pos hc] at hk
            cases k with
            | zero => exact hc
            | succ k => exact ih k (by simpa using hk)
          · rw [if_neg hc] at hk
            simp at hk
      have := key (s.drop i) (j - i) (by unfold skN at h; omega)
      rw [show (s.drop i).getD (j - i) 0 = s.getD j 0 by simp [List.getD_eq_getElem?_getD, show i + (j - i) = j by omega], h3] at this
      cases this
    · omega
set_option maxRecDepth 100000 in
set_option maxHeartbeats 1000000 in
theorem ziy (s : List UInt8) (i : Nat) (hs : s.length ≤ 1048576) (hi : i ≤ s.length) : CtrO Tryz.prog 49 [.pv 13 0] (rdr s i) (.tu []) (rdr s (skN s i)) := by
  refine zaI Tryz.func49 rfl Tryz.ntmps49 Tryz.results49 rfl rfl rfl rfl rfl fun X hL hX => ?_
  repeat' (first |with_reducible (first |refine zae ?_)|fail)
  refine T.loop hL (fun _ : Nat => [(0, .pv 13 0)]) (fun j => rdr s j) (fun j => i ≤ j ∧ j ≤ skN s i) (fun j => s.length - j) i ⟨Nat.le_refl _, (zfV hi).1⟩
    ⟨⟨rfl, trivial⟩, ⟨rfl, trivial⟩, rfl, fun q hq => by rw [hX] at hq; simp at hq; simp [hq]⟩ ?_
  rintro j ⟨h1, h2⟩
  have h3 := (zfV hi).2
  by_cases hj : j < s.length
  · have c1 := zeF [32, 9, 10, 13] (at' s j)
    have hb := ztK s j
    cases hc : blkB (s.getD j 0) with
    | true =>
      rw [hc, decide_eq_true_eq] at hb
      have hm := zqb h1 h2 hj hc
      repeat' (first |refine zaK (f := 82) rfl rfl rfl rfl Tryz.call82 rfl c1 ?_|with_reducible (first |refine zag ?_|refine zaa ?_|refine zaf ?_|refine zad ?_|refine zah ?_|refine zae ?_|refine zap ?_|refine zaB ?_)|refine zab rfl rfl True.intro ?_|refine zak rfl rfl rfl rfl True.intro ?_|((first |refine zac rfl ?_ ?_|refine zan rfl rfl ?_ ?_)<;>intro<;>try (first |(exfalso;omega)))|((first |refine zab rfl rfl ?_ ?_|refine zak rfl rfl rfl rfl ?_ ?_|refine zaw rfl ?_ ?_);focus (first |omega|exact le_ rfl|((repeat' refine And.intro ?_ ?_)<;>omega)|((repeat' refine And.intro ?_ ?_)<;>first |rfl|exact Nat.le_refl _)))|with_reducible refine ⟨by kernel_rfl, ?_⟩|fail)
      all_goals exact ⟨j + 1, ⟨by omega, hm⟩, by omega, ⟨rfl, trivial⟩, ⟨congrArg (fun x => some (Own.var [.s s, .i .i64 x])) (by omega), trivial⟩, rfl, fun q hq => by rw [hX] at hq; simp at hq; simp [hq]⟩
    | false =>
      rw [hc, decide_eq_false_iff_not] at hb
      rw [zox h1 h2 (.inr hc) hi]
      repeat' (first |refine zaK (f := 82) rfl rfl rfl rfl Tryz.call82 rfl c1 ?_|with_reducible (first |refine zag ?_|refine zaf ?_|refine zad ?_|refine zaA ?_|refine zaz ?_|refine zaB ?_)|refine zab rfl rfl True.intro ?_|refine zak rfl rfl rfl rfl True.intro ?_|((first |refine zac rfl ?_ ?_|refine zan rfl rfl ?_ ?_)<;>intro<;>try (first |(exfalso;omega)))|((first |refine zab rfl rfl ?_ ?_|refine zak rfl rfl rfl rfl ?_ ?_);focus (first |omega|exact le_ rfl|((repeat' refine And.intro ?_ ?_)<;>omega)))|refine zaO rfl ?_|with_reducible refine ⟨by kernel_rfl, ?_⟩|refine zbT rfl rfl ⟨⟨rfl, trivial⟩⟩|fail)
  · rw [zox h1 h2 (.inl (by omega)) hi]
    repeat' (first |with_reducible (first |refine zag ?_|refine zaf ?_|refine zad ?_|refine zaA ?_|refine zaz ?_|refine zaB ?_)|refine zab rfl rfl True.intro ?_|refine zat rfl rfl rfl ?_|refine zal rfl ?_|((first |refine zan rfl rfl ?_ ?_)<;>intro<;>try (first |(exfalso;omega)))|((first |refine zab rfl rfl ?_ ?_);focus (first |exact le_ rfl|((repeat' refine And.intro ?_ ?_)<;>omega)))|refine zaO rfl ?_|with_reducible refine ⟨by kernel_rfl, ?_⟩|refine zbT rfl rfl ⟨⟨rfl, trivial⟩⟩|fail)
def peekD (s : List UInt8) : Sum Nat (Nat × Int) → Sum (D × Nat) (Nat × Int)
  | .inl j => .inl (.i .u8 (at' s j), j)
  | .inr e => .inr e
set_option maxRecDepth 100000 in
set_option maxHeartbeats 1000000 in
theorem zbO (s : List UInt8) (i : Nat) (hs : s.length ≤ 1048576) (hi : i ≤ s.length) : RdE 77 [.pv 13 0] s i (peekD s (jpeek s i)) := by
  have c1 := ziy s i hs hi
  have hle := zfV hi
  unfold jpeek
  by_cases h : skN s i < s.length
  · rw [if_pos h]
    refine zaI Tryz.func77 rfl Tryz.ntmps77 Tryz.results77 rfl rfl rfl rfl rfl fun X hL hX => ?_
    repeat' (first |refine zaq (f := 49) 13 rfl rfl Tryz.call49 rfl rfl rfl rfl rfl c1 ?_|with_reducible (first |refine zag ?_|refine zaa ?_|refine zaf ?_|refine zad ?_|refine zaj ?_|refine zah ?_|refine zaB ?_)|refine zab rfl rfl True.intro ?_|((first |refine zac rfl ?_ ?_)<;>intro<;>try (first |(exfalso;omega)))|((first |refine zab rfl rfl ?_ ?_);focus (first |omega|exact le_ rfl|((repeat' refine And.intro ?_ ?_)<;>omega)))|with_reducible refine ⟨by kernel_rfl, ?_⟩|refine zbb rfl rfl ⟨⟨rfl, trivial⟩⟩|fail)
  · rw [if_neg h]
    have c2 := zbn (skN s i) 2
    refine zeN Tryz.func77 rfl Tryz.ntmps77 rfl rfl rfl rfl fun X hL hX => ?_
    repeat' (first |(refine zbB (id := 3) 4 ?_;dsimp only [splitOp])|refine zaq (f := 49) 13 rfl rfl Tryz.call49 rfl rfl rfl rfl rfl c1 ?_|refine zdb rfl Tryz.call50 rfl c2 ?_|with_reducible (first |refine zag ?_|refine zaa ?_|refine zaf ?_|refine zad ?_|refine zaB ?_)|refine zab rfl rfl True.intro ?_|((first |refine zac rfl ?_ ?_)<;>intro<;>try (first |(exfalso;omega)))|((first |refine zab rfl rfl ?_ ?_);focus (first |exact le_ rfl|((repeat' refine And.intro ?_ ?_)<;>omega)))|with_reducible refine ⟨by kernel_rfl, ?_⟩|refine zaW ?_|refine zjM rfl ⟨⟨_, rfl⟩, trivial⟩|fail)
def litC (k : Int) (y : Bool) : List D := [.i .i64 k, .b y, .b false, .s [], .i .i64 0, .s [], .nilS, .nilS]
def litJ (k : Int) (y : Bool) : J := .mk k y false [] 0 [] [] []
theorem zdQ (k : Int) (y : Bool) : Weak (.ag (litC k y)) (.ag (jC (litJ k y))) := by
  unfold litJ jC
  refine .ag _ _ rfl fun j hj => ?_
  match j, hj with
  | 0, _ => exact .refl _
  | 1, _ => exact .refl _
  | 2, _ => exact .refl _
  | 3, _ => exact .refl _
  | 4, _ => exact .refl _
  | 5, _ => exact .refl _
  | 6, _ => exact .nil 8 _
  | 7, _ => exact .nil 1 _
def wordD (k : Int) (y : Bool) : JR → Sum (D × Nat) (Nat × Int)
  | .inl (_, n) => .inl (.ag (litC k y), n)
  | .inr e => .inr e
theorem zkR (s : List UInt8) (i : Nat) : List.drop (i : Int).toNat (List.take (s.length : Int).toNat s) = s.drop i := by
  rw [Int.toNat_natCast, Int.toNat_natCast, List.take_length]
theorem ziv (s p : List UInt8) : Ctr Tryz.prog 108 [.s s, .s p] (.b (Lib.hasPrefix s p)) := by
  intro w S vs hv hg hn hr
  have h0 := hr 0 (by simp)
  have h1 := hr 1 (by simp)
  rw [zhn hn]
  generalize vs.getD 0 undef = v0 at *
  generalize vs.getD 1 undef = v1 at *
  cases h0
  cases h1
  refine (Tryz.strings_HasPrefix ⟨s.toArray⟩ ⟨p.toArray⟩ w).mono ?_
  rintro e w' ⟨rfl, rfl⟩
  exact ⟨_, S, rfl, .b _ _, zek _ S hv hg⟩
set_option maxRecDepth 100000 in
set_option maxHeartbeats 1000000 in
theorem zfW (s w : List UInt8) (i : Nat) (k : Int) (y : Bool) (hs : s.length ≤ 1048576) (hw : w.length ≤ 10) (hi : i ≤ s.length) : RdE 78 [.pv 13 0, .s w, .ag (litC k y)] s i (wordD k y (jword s i w (litJ k y))) := by
  have c1 : Ctr Tryz.prog 108 [.s (List.drop (i : Int).toNat (List.take (s.length : Int).toNat s)), .s w] (.b (Lib.hasPrefix (s.drop i) w)) := by
    rw [zkR]
    exact ziv _ _
  unfold jword
  cases h : Lib.hasPrefix (s.drop i) w with
  | true =>
    rw [h] at c1
    rw [if_pos rfl]
    refine zaI Tryz.func78 rfl Tryz.ntmps78 Tryz.results78 rfl rfl rfl rfl rfl fun X hL hX => ?_
    repeat' (first |refine zai (f := 108) rfl rfl Tryz.call108 rfl c1 ?_|with_reducible (first |refine zag ?_|refine zaa ?_|refine zaf ?_|refine zad ?_|refine zaj ?_|refine zah ?_|refine zaB ?_)|refine zab rfl rfl True.intro ?_|refine zal rfl ?_|((first |refine zab rfl rfl ?_ ?_|refine zao rfl rfl ?_ ?_|refine zaw rfl ?_ ?_);focus (first |omega|exact le_ rfl|((repeat' refine And.intro ?_ ?_)<;>omega)|((repeat' refine And.intro ?_ ?_)<;>first |rfl|exact Nat.le_refl _)))|with_reducible refine ⟨by kernel_rfl, ?_⟩|refine zbb rfl rfl ⟨⟨?_, trivial⟩⟩|fail)
    all_goals exact congrArg (fun x => some (Own.var [.s s, .i .i64 x])) (by omega)
  | false =>
    rw [h] at c1
    rw [if_neg Bool.false_ne_true]
    have c2 := zbn i 3
    refine zeN Tryz.func78 rfl Tryz.ntmps78 rfl rfl rfl rfl fun X hL hX => ?_
    repeat' (first |(refine zbB (id := 2) 4 ?_;dsimp only [splitOp])|refine zai (f := 108) rfl rfl Tryz.call108 rfl c1 ?_|refine zdb rfl Tryz.call50 rfl c2 ?_|with_reducible (first |refine zag ?_|refine zaa ?_|refine zaf ?_|refine zad ?_|refine zaB ?_)|refine zab rfl rfl True.intro ?_|refine zav rfl ?_|((first |refine zab rfl rfl ?_ ?_|refine zao rfl rfl ?_ ?_);focus (first |omega|exact le_ rfl|((repeat' refine And.intro ?_ ?_)<;>omega)|((repeat' refine And.intro ?_ ?_)<;>first |rfl)))|with_reducible refine ⟨by kernel_rfl, ?_⟩|refine zaW ?_|refine zjM rfl ⟨⟨_, rfl⟩, trivial⟩|fail)
def textD : Sum (List UInt8 × Nat) (Nat × Int) → Sum (D × Nat) (Nat × Int)
  | .inl (t, n) => .inl (.s t, n)
  | .inr e => .inr e
set_option maxRecDepth 100000 in
set_option maxHeartbeats 1000000 in
theorem zix (s : List UInt8) (i : Nat) (hs : s.length ≤ 1048576) (_hi : i ≤ s.length) : RdE 79 [.pv 13 0] s i (textD (jtext s i)) := by
  have c1 := zsQ s i hs
  have hn := @zlm s i
  unfold jtext
  generalize unqF s i = R at *
  obtain ⟨t, n, e⟩ := R
  dsimp only at hn c1 ⊢
  by_cases h : e = 0
  · rw [if_pos h]
    have hn := hn h
    subst h
    obtain ⟨n', rfl⟩ : ∃ n' : Nat, n = n' := ⟨n.toNat, by omega⟩
    rw [Int.toNat_natCast]
    refine zaI Tryz.func79 rfl Tryz.ntmps79 Tryz.results79 rfl rfl rfl rfl rfl fun X hL hX => ?_
    repeat' (first |refine zai (f := 109) rfl rfl Tryz.call109 rfl c1 ?_|with_reducible (first |refine zag ?_|refine zaa ?_|refine zaf ?_|refine zad ?_|refine zaj ?_|refine zah ?_|refine zaB ?_)|refine zab rfl rfl True.intro ?_|refine zal rfl ?_|((first |refine zab rfl rfl ?_ ?_|refine zaw rfl ?_ ?_);focus (first |exact le_ rfl|((repeat' refine And.intro ?_ ?_)<;>omega)|((repeat' refine And.intro ?_ ?_)<;>first |rfl|exact Nat.le_refl _)))|with_reducible refine ⟨by kernel_rfl, ?_⟩|refine zbb rfl rfl ⟨⟨rfl, trivial⟩⟩|fail)
  · rw [if_neg h]
    have c2 := zbn i e
    refine zeN Tryz.func79 rfl Tryz.ntmps79 rfl rfl rfl rfl fun X hL hX => ?_
    repeat' (first |(refine zbB (id := 3) 5 ?_;dsimp only [splitOp])|refine zai (f := 109) rfl rfl Tryz.call109 rfl c1 ?_|refine zdb rfl Tryz.call50 rfl c2 ?_|with_reducible (first |refine zag ?_|refine zaa ?_|refine zaf ?_|refine zad ?_|refine zaB ?_)|refine zab rfl rfl True.intro ?_|((first |refine zaC rfl ?_ ?_)<;>intro<;>try (first |(exfalso;omega)))|((first |refine zab rfl rfl ?_ ?_);focus (first |exact le_ rfl|((repeat' refine And.intro ?_ ?_)<;>omega)))|with_reducible refine ⟨by kernel_rfl, ?_⟩|refine zaW ?_|refine zjM rfl ⟨⟨_, rfl⟩, trivial⟩|fail)
theorem zpE (n : Bool) (d : List UInt8) (e : Int) : Ctr Tryz.prog 63 [.ag [.b n, .s d, .i .i64 e]] (.ag [.i .i64 2, .b false, .b n, .s d, .i .i64 e, .s [], .nilS, .nilS]) := by
  refine zaE Tryz.func63 rfl Tryz.ntmps63 Tryz.results63 rfl rfl fun X hL hX => ?_
  repeat' (first |with_reducible (first |refine zag ?_|refine zaa ?_|refine zaf ?_|refine zad ?_|refine zaj ?_)|refine zab rfl rfl True.intro ?_|((first |refine zab rfl rfl ?_ ?_|refine zao rfl rfl ?_ ?_|refine zaw rfl ?_ ?_);focus (first |exact le_ rfl|((repeat' refine And.intro ?_ ?_)<;>omega)|((repeat' refine And.intro ?_ ?_)<;>first |rfl|exact Nat.le_refl _)))|refine zau rfl ?_|fail)
  all_goals rfl
def numC (r : Bool × List UInt8 × Int) : List D := [.i .i64 2, .b false, .b r.1, .s r.2.1, .i .i64 r.2.2, .s [], .nilS, .nilS]
theorem zrl (r : Bool × List UInt8 × Int) : Weak (.ag (numC r)) (.ag (jC (jnumV r))) := by
  unfold jnumV jC
  refine .ag _ _ rfl fun j hj => ?_
  match j, hj with
  | 0, _ => exact .refl _
  | 1, _ => exact .refl _
  | 2, _ => exact .refl _
  | 3, _ => exact .refl _
  | 4, _ => exact .refl _
  | 5, _ => exact .refl _
  | 6, _ => exact .nil 8 _
  | 7, _ => exact .nil 1 _
def numD (s : List UInt8) (i : Nat) : JR → Sum (D × Nat) (Nat × Int)
  | .inl (_, n) => .inl (.ag (numC (parseG powP (s.drop i)).1), n)
  | .inr e => .inr e
set_option maxRecDepth 100000 in
set_option maxHeartbeats 1000000 in
theorem zkC (s : List UInt8) (i : Nat) (hs : s.length ≤ 1048576) (hi : i ≤ s.length) : RdE 81 [.pv 13 0] s i (numD s i (jnum s i)) := by
  have c1 : Ctr Tryz.prog 111 [.s (List.drop (i : Int).toNat (List.take (s.length : Int).toNat s))] (.tu [dcV (parseG powP (s.drop i)).1, .i .i64 (parseG powP (s.drop i)).2.1, .i .i64 (parseG powP (s.drop i)).2.2]) := by
    rw [zkR]
    exact zoF _ (by rw [List.length_drop]; omega)
  have hn := zkO powP (s.drop i)
  rw [List.length_drop] at hn
  unfold jnum numD
  generalize parseG powP (s.drop i) = R at *
  obtain ⟨⟨ng, dg, ex⟩, n, e⟩ := R
  dsimp only at hn c1 ⊢
  have c3 := zpE ng dg ex
  by_cases h : e = 0
  · rw [if_pos h]
    have hn := hn h
    subst h
    refine zaI Tryz.func81 rfl Tryz.ntmps81 Tryz.results81 rfl rfl rfl rfl rfl fun X hL hX => ?_
    repeat' (first |refine zai (f := 111) rfl rfl Tryz.call111 rfl c1 ?_|refine zai (f := 63) rfl rfl Tryz.call63 rfl c3 ?_|with_reducible (first |refine zag ?_|refine zaa ?_|refine zaf ?_|refine zad ?_|refine zaj ?_|refine zah ?_|refine zaB ?_)|refine zab rfl rfl True.intro ?_|refine zal rfl ?_|((first |refine zab rfl rfl ?_ ?_|refine zao rfl rfl ?_ ?_|refine zaw rfl ?_ ?_);focus (first |omega|exact le_ rfl|((repeat' refine And.intro ?_ ?_)<;>omega)|((repeat' refine And.intro ?_ ?_)<;>first |rfl|exact Nat.le_refl _)))|with_reducible refine ⟨by kernel_rfl, ?_⟩|refine zbb rfl rfl ⟨⟨?_, trivial⟩⟩|fail)
    all_goals exact congrArg (fun x => some (Own.var [.s s, .i .i64 x])) (by omega)
  · rw [if_neg h]
    have c2 := zbn i e
    refine zeN Tryz.func81 rfl Tryz.ntmps81 rfl rfl rfl rfl fun X hL hX => ?_
    repeat' (first |(refine zbB (id := 3) 5 ?_;dsimp only [splitOp])|refine zai (f := 111) rfl rfl Tryz.call111 rfl c1 ?_|refine zdb rfl Tryz.call50 rfl c2 ?_|with_reducible (first |refine zag ?_|refine zaa ?_|refine zaf ?_|refine zad ?_|refine zaB ?_)|refine zab rfl rfl True.intro ?_|((first |refine zaC rfl ?_ ?_)<;>intro<;>try (first |(exfalso;omega)))|((first |refine zab rfl rfl ?_ ?_|refine zao rfl rfl ?_ ?_|refine zaw rfl ?_ ?_);focus (first |omega|exact le_ rfl|((repeat' refine And.intro ?_ ?_)<;>omega)|((repeat' refine And.intro ?_ ?_)<;>first |rfl|exact Nat.le_refl _)))|with_reducible refine ⟨by kernel_rfl, ?_⟩|refine zaW ?_|refine zjM rfl ⟨⟨_, rfl⟩, trivial⟩|fail)
end Go.Proofs.YtcajofhafpkbdaaGreatDoor.Flow
