/- The texts J2, D4, D5, D8, one behind the other. -/
import Derived.Test.YtcajofhafpkbdaaGreatDoorCF13
import Derived.Lib.Bytealg
namespace Go.Proofs.YtcajofhafpkbdaaGreatDoor.Flow
open Go

theorem zjg (pw : List UInt8 → Int) (s : List UInt8) (h : (parseG pw s).2.2 = 0) : 0 < (parseG pw s).2.1 ∧ (parseG pw s).2.1 ≤ s.length := by
  have hd : ∀ i, (dgT s i).length ≤ s.length - i := zcN s
  have hs : ∀ i c, sat s i c → i < s.length := fun i c q => q.1
  have hn : ∀ i, ¬ dgT s i = [] → 0 < (dgT s i).length := fun i q => List.length_pos_iff.2 q
  unfold parseG at h ⊢
  by_cases hw : (whN s (sg0 s)).1 = []
  · rw [if_pos hw] at h
    cases h
  · rw [if_neg hw] at h ⊢
    dsimp only at h ⊢
    have w1 : 0 < (whN s (sg0 s)).2 ∧ (whN s (sg0 s)).2 ≤ s.length := by
      unfold whN at hw ⊢
      by_cases q : sat s (sg0 s) 48
      · rw [if_pos q]
        have := hs _ _ q
        dsimp only
        omega
      · rw [if_neg q] at hw ⊢
        have := hn _ hw
        have := hd (sg0 s)
        dsimp only
        omega
    have w2 : (whN s (sg0 s)).2 ≤ (frN s (whN s (sg0 s)).2).2 ∧ (frN s (whN s (sg0 s)).2).2 ≤ s.length := by
      unfold frN
      generalize (whN s (sg0 s)).2 = a at *
      by_cases q : sat s a 46 ∧ ¬ dgT s (a + 1) = []
      · rw [if_pos q]
        have := hs _ _ q.1
        have := hn _ q.2
        have := hd (a + 1)
        dsimp only
        omega
      · rw [if_neg q]
        exact ⟨Nat.le_refl _, w1.2⟩
    have w3 : (frN s (whN s (sg0 s)).2).2 ≤ (exN pw s (frN s (whN s (sg0 s)).2).2).2 ∧ (exN pw s (frN s (whN s (sg0 s)).2).2).2 ≤ s.length := by
      unfold exN
      generalize (frN s (whN s (sg0 s)).2).2 = a at *
      by_cases q : (sat s a 101 ∨ sat s a 69) ∧ ¬ dgT s (sgN s (a + 1)) = []
      · rw [if_pos q]
        have := hn _ q.2
        have := hd (sgN s (a + 1))
        have h5 : a + 1 ≤ sgN s (a + 1) := by
          unfold sgN
          split <;> omega
        dsimp only
        omega
      · rw [if_neg q]
        exact ⟨Nat.le_refl _, w2.2⟩
    generalize hx : exN pw s (frN s (whN s (sg0 s)).2).2 = x at *
    by_cases hr : (normF (decide (sat s 0 45)) ((whN s (sg0 s)).1 ++ (frN s (whN s (sg0 s)).2).1) (x.1 - (frN s (whN s (sg0 s)).2).1.length)).2 = 0
    · rw [if_pos hr]
      dsimp only
      omega
    · rw [if_neg hr] at h
      exact absurd h hr
theorem zob {s : List UInt8} {i n : Nat} {x : J} (hi : i ≤ s.length) (h : jnum s i = .inl (x, n)) : i < n ∧ n ≤ s.length := by
  unfold jnum at h
  split at h
  · rename_i hz
    have := zjg powP _ hz
    rw [List.length_drop] at this
    cases h
    omega
  · cases h
theorem zfX {s w : List UInt8} {i n : Nat} {x y : J} (hw : 0 < w.length) (hi : i ≤ s.length) (h : jword s i w x = .inl (y, n)) : i < n ∧ n ≤ s.length := by
  unfold jword at h
  split at h
  · rename_i hz
    have : w.length ≤ (s.drop i).length := by
      unfold Lib.hasPrefix at hz
      exact (List.isPrefixOf_iff_prefix.1 hz).length_le
    rw [List.length_drop] at this
    cases h
    omega
  · cases h
theorem zoT {s : List UInt8} {j : Nat} (h : at' s j = 110 ∨ at' s j = 116 ∨ at' s j = 102) : jnum s j = .inr (j, 3) := by
  have e0 : at' (s.drop j) 0 = at' s j := by
    show (((s.drop j).getD 0 0).toNat : Int) = ((s.getD j 0).toNat : Int)
    simp [List.getD_eq_getElem?_getD]
  have hsg : sg0 (s.drop j) = 0 := by
    unfold sg0
    refine if_neg fun q => ?_
    have : at' (s.drop j) 0 = 45 := q.2
    omega
  have hw : (whN (s.drop j) 0).1 = [] := by
    unfold whN
    rw [if_neg (fun q => by
      have : at' (s.drop j) 0 = 48 := q.2
      omega)]
    refine zjn (.inr fun q => ?_)
    have : 48 ≤ at' (s.drop j) 0 ∧ at' (s.drop j) 0 ≤ 57 := q
    omega
  have hp : parseG powP (s.drop j) = ((false, [], 0), 0, 3) := by
    unfold parseG
    rw [hsg, if_pos hw]
  unfold jnum
  rw [hp]
  rfl

theorem zoL {s k : List UInt8} {ks : List (List UInt8)} {i n : Nat} (hi : i ≤ s.length) (h : jkey s i ks = .inl (k, n)) : i < n ∧ n ≤ s.length := by
  unfold jkey at h
  cases h1 : jpeek s i with
  | inr e => rw [h1] at h; cases h
  | inl j =>
    rw [h1] at h
    have q1 := zcj hi h1
    dsimp only at h
    split at h
    · cases h
    · cases h2 : jtext s j with
      | inr e => rw [h2] at h; cases h
      | inl r =>
        obtain ⟨k2, n2⟩ := r
        rw [h2] at h
        have q2 := zgC h2
        dsimp only at h
        split at h
        · cases h
        · cases h3 : jpeek s n2 with
          | inr e => rw [h3] at h; cases h
          | inl m =>
            rw [h3] at h
            have q3 := zcj q2.2 h3
            dsimp only at h
            split at h
            · cases h
            · cases h
              omega
theorem zgf {s : List UInt8} {mp : Bool} {ks ks' : List (List UInt8)} {i n : Nat} (hi : i ≤ s.length) (h : jkeys s mp i ks = .inl (ks', n)) : i ≤ n ∧ n ≤ s.length := by
  unfold jkeys at h
  cases mp with
  | false =>
    cases h
    exact ⟨Nat.le_refl _, hi⟩
  | true =>
    rw [if_pos rfl] at h
    cases h1 : jkey s i ks with
    | inr e => rw [h1] at h; cases h
    | inl r =>
      obtain ⟨k, m⟩ := r
      rw [h1] at h
      have := zoL hi h1
      cases h
      omega

def ValOk (s : List UInt8) (val : Nat → JR) : Prop := ∀ i x n, i ≤ s.length → val i = .inl (x, n) → i < n ∧ n ≤ s.length
theorem zjj {s : List UInt8} {val : Nat → JR} (hv : ValOk s val) {mp : Bool} {i : Nat} (hi : i ≤ s.length) (l : List J) (ks : List (List UInt8)) : jgo s val mp i l ks =
    match jkeys s mp i ks with
    | .inr e => .inr e
    | .inl (ks', i1) =>
      match val i1 with
      | .inr e => .inr e
      | .inl (x, i2) =>
        match jpeek s i2 with
        | .inr e => .inr e
        | .inl i3 => if at' s i3 = endM mp then .inl (manyV mp (l ++ [x]) ks', i3 + 1)
          else if at' s i3 = 44 then jgo s val mp (i3 + 1) (l ++ [x]) ks' else .inr (i3, 3) := by
  conv => lhs; rw [jgo]
  cases h1 : jkeys s mp i ks with
  | inr e => rfl
  | inl r =>
    obtain ⟨ks', i1⟩ := r
    have q1 := zgf hi h1
    dsimp only
    cases h2 : val i1 with
    | inr e => rfl
    | inl r =>
      obtain ⟨x, i2⟩ := r
      have q2 := hv _ _ _ q1.2 h2
      dsimp only
      cases h3 : jpeek s i2 with
      | inr e => rfl
      | inl i3 =>
        have q3 := zcj q2.2 h3
        dsimp only
        rw [if_pos (show i ≤ i3 ∧ i3 < s.length by omega)]
theorem zpP {s : List UInt8} {val : Nat → JR} (hv : ValOk s val) {mp : Bool} : ∀ (m i : Nat) (l : List J) (ks : List (List UInt8)) (x : J) (n : Nat), s.length - i ≤ m → i ≤ s.length → jgo s val mp i l ks = .inl (x, n) → i < n ∧ n ≤ s.length := by
  intro m
  induction m with
  | zero =>
    intro i l ks x n hm hi h
    rw [zjj hv hi] at h
    cases h1 : jkeys s mp i ks with
    | inr e => rw [h1] at h; cases h
    | inl r =>
      obtain ⟨ks', i1⟩ := r
      rw [h1] at h
      have q1 := zgf hi h1
      dsimp only at h
      cases h2 : val i1 with
      | inr e => rw [h2] at h; cases h
      | inl r =>
        obtain ⟨y, i2⟩ := r
        have q2 := hv _ _ _ q1.2 h2
        omega
  | succ m ih =>
    intro i l ks x n hm hi h
    rw [zjj hv hi] at h
    cases h1 : jkeys s mp i ks with
    | inr e => rw [h1] at h; cases h
    | inl r =>
      obtain ⟨ks', i1⟩ := r
      rw [h1] at h
      have q1 := zgf hi h1
      dsimp only at h
      cases h2 : val i1 with
      | inr e => rw [h2] at h; cases h
      | inl r =>
        obtain ⟨y, i2⟩ := r
        rw [h2] at h
        have q2 := hv _ _ _ q1.2 h2
        dsimp only at h
        cases h3 : jpeek s i2 with
        | inr e => rw [h3] at h; cases h
        | inl i3 =>
          rw [h3] at h
          have q3 := zcj q2.2 h3
          dsimp only at h
          split at h
          · cases h
            omega
          · split at h
            · have := ih _ _ _ _ _ (by omega) (by omega) h
              omega
            · cases h
theorem zjB {s : List UInt8} {val : Nat → JR} (hv : ValOk s val) {mp : Bool} {i n : Nat} {x : J} (hi : i < s.length) (h : jmany s val mp i = .inl (x, n)) : i < n ∧ n ≤ s.length := by
  unfold jmany at h
  cases h1 : jpeek s (i + 1) with
  | inr e => rw [h1] at h; cases h
  | inl j =>
    rw [h1] at h
    have q := zcj hi h1
    dsimp only at h
    split at h
    · cases h
      omega
    · have := zpP hv _ _ _ _ _ _ (Nat.le_refl _) (by omega) h
      omega
theorem zkS (s : List UInt8) : ∀ d, ValOk s (jval s d) := by
  intro d
  induction d with
  | zero =>
    intro i x n hi h
    unfold jval at h
    split at h <;> cases h
  | succ d ih =>
    intro i x n hi h
    unfold jval at h
    cases h1 : jpeek s i with
    | inr e => rw [h1] at h; cases h
    | inl j =>
      rw [h1] at h
      have q := zcj hi h1
      dsimp only at h
      have key : j < n ∧ n ≤ s.length := by
        split at h
        · exact zfX (by decide) (by omega) h
        · split at h
          · exact zfX (by decide) (by omega) h
          · split at h
            · exact zfX (by decide) (by omega) h
            · split at h
              · cases h2 : jtext s j with
                | inr e => rw [h2] at h; cases h
                | inl r =>
                  obtain ⟨t, m⟩ := r
                  rw [h2] at h
                  have := zgC h2
                  cases h
                  exact this
              · split at h
                · exact zjB ih q.2.1 h
                · split at h
                  · exact zjB ih q.2.1 h
                  · exact zob (by omega) h
      omega

abbrev pO (s : List UInt8) (i : Int) : Ow := [(5, .var [.i .i64 i]), (1, .var [.s s])]
abbrev pF : D := .fn 135 [.pv 5 0, .pv 1 0]
abbrev pO3 (s : List UInt8) (i : Int) : Ow := [(5, .var [.i .i64 i]), (6, .var [pF]), (1, .var [.s s])]

theorem zmt (set : List UInt8) (p : Int → Prop) [DecidablePred p] (hp : ∀ c : Int, 0 ≤ c → c < 256 → (0 ≤ Lib.indexByte set c.toNat.toUInt8 ↔ p c)) (s : List UInt8) (i : Nat) (_hs : s.length ≤ 1048576) (hi : i ≤ s.length) :
    CtrO Tryz.prog 135 [.s set, .pv 5 0, .pv 1 0] (pO s i) (.b (decide (i < s.length ∧ p (at' s i)))) (pO s i) := by
  have hr := zba s i
  have h1 := hp (at' s i) hr.1 hr.2
  have c1 := zdy set (at' s i)
  generalize Lib.indexByte set (at' s i).toNat.toUInt8 = z at h1 c1
  refine zbi Tryz.func135 rfl Tryz.ntmps135 Tryz.results135 rfl rfl rfl rfl rfl fun X hL hX => ?_
  repeat' (first |with_reducible (first |refine zaK ?_|refine zaj ?_|refine zaL ?_|refine zaB ?_|refine zaO ?_|refine zaD ?_|refine zaC ?_|refine zar ?_|refine zaq ?_|refine zaI ?_|refine zaE ?_|refine zas ?_|refine zaH ?_)|refine zaw rfl rfl True.intro ?_|refine zau rfl rfl rfl ?_|refine zao rfl rfl rfl ?_|refine zag rfl rfl rfl rfl True.intro ?_|refine zaF rfl ?_|refine zat rfl ?_|((first |refine zal rfl ?_ ?_|refine zan rfl ?_ ?_|refine zak rfl ?_ ?_|refine zam rfl ?_ ?_|refine zap rfl ?_ ?_|refine zaA rfl ?_ ?_|refine zad rfl rfl ?_ ?_|refine zae rfl rfl ?_ ?_|refine zaf rfl rfl ?_ ?_|refine zac rfl rfl ?_ ?_|refine zab rfl rfl ?_ ?_)<;>intro<;>try (first |contradiction|(exfalso;omega)))|((first |refine zaw rfl rfl ?_ ?_|refine zag rfl rfl rfl rfl ?_ ?_|refine zaM rfl rfl ?_ ?_|refine zaJ rfl ?_ ?_|refine zaG rfl rfl rfl rfl ?_ ?_);focus (first |omega|exact le_ rfl|((repeat first |rw [zay]|rw [wi6_]|rw [wi3_]|rw [zai]|rw [zah]);(repeat' refine And.intro ?_ ?_)<;>omega)|((repeat' refine And.intro ?_ ?_)<;>first |omega|rfl|exact Nat.le_refl _|exact le_ rfl|exact zaa _)|(simp_all;done)|(simp_all;omega)))|refine zaP rfl ?_|refine zaz rfl ?_|with_reducible refine ⟨by kernel_rfl, ?_⟩|refine zbf rfl ?_ ?_|refine zbg rfl ?_ ?_|refine zaY (f := 82) rfl rfl rfl rfl Tryz.call82 rfl c1 ?_|((with_reducible refine zaN ?_);(fail_if_success (refine zax true rfl rfl rfl ?_));(fail_if_success (refine zax false rfl rfl rfl ?_));refine zav rfl rfl (fun _ => ?_) (fun _ => ?_)))
  · exact congrArg D.b (decide_eq_decide.2 ⟨fun h => ⟨by omega, h1.1 h⟩, fun h => h1.2 h.2⟩)
  · exact ⟨⟨rfl, rfl, trivial⟩⟩
  · rw [decide_eq_false (fun h => ‹¬ (i : Int) < s.length› (by omega))]
  · exact ⟨⟨rfl, rfl, trivial⟩⟩

theorem zfh (a : UInt8) (c : Int) (h0 : 0 ≤ c) (h1 : c < 256) : 0 ≤ Lib.indexByte [a] c.toNat.toUInt8 ↔ c = (a.toNat : Int) := by
  have e : (a == c.toNat.toUInt8) = decide (c = (a.toNat : Int)) := by
    rw [Bool.eq_iff_iff, beq_iff_eq, decide_eq_true_iff]
    constructor
    · rintro rfl
      have : c.toNat < 256 := by omega
      simp [Nat.toUInt8]
      omega
    · rintro rfl
      simp [Nat.toUInt8]
  unfold Lib.indexByte
  rw [e]
  by_cases h : c = (a.toNat : Int)
  · simp [h]
  · simp [h, Lib.indexByte]

theorem zbq (a : UInt8) (l : List UInt8) (c : Int) (h0 : 0 ≤ c) (h1 : c < 256) : 0 ≤ Lib.indexByte (a :: l) c.toNat.toUInt8 ↔ c = (a.toNat : Int) ∨ 0 ≤ Lib.indexByte l c.toNat.toUInt8 := by
  have e : (a == c.toNat.toUInt8) = decide (c = (a.toNat : Int)) := by
    rw [Bool.eq_iff_iff, beq_iff_eq, decide_eq_true_iff]
    constructor
    · rintro rfl
      have : c.toNat < 256 := by omega
      simp [Nat.toUInt8]
      omega
    · rintro rfl
      simp [Nat.toUInt8]
  have hg := Lib.indexByte_ge l c.toNat.toUInt8
  conv => lhs; unfold Lib.indexByte
  rw [e]
  generalize Lib.indexByte l c.toNat.toUInt8 = z at *
  by_cases h : c = (a.toNat : Int)
  · simp [h]
  · by_cases hz : z = -1
    · simp [h, hz]
    · simp [h, hz]
      omega

theorem zkd : ∀ c : Int, 0 ≤ c → c < 256 → (0 ≤ Lib.indexByte ({ data := #[48, 49, 50, 51, 52, 53, 54, 55, 56, 57] } : ByteArray).data.toList c.toNat.toUInt8 ↔ 48 ≤ c ∧ c ≤ 57) := fun c h0 h1 => by
  show 0 ≤ Lib.indexByte [48, 49, 50, 51, 52, 53, 54, 55, 56, 57] c.toNat.toUInt8 ↔ _
  rw [zbq _ _ _ h0 h1, zbq _ _ _ h0 h1, zbq _ _ _ h0 h1, zbq _ _ _ h0 h1, zbq _ _ _ h0 h1, zbq _ _ _ h0 h1, zbq _ _ _ h0 h1, zbq _ _ _ h0 h1, zbq _ _ _ h0 h1, zfh _ _ h0 h1]
  simp
  omega
theorem set_1 (a : UInt8) : ∀ c : Int, 0 ≤ c → c < 256 → (0 ≤ Lib.indexByte [a] c.toNat.toUInt8 ↔ c = (a.toNat : Int)) := fun c h0 h1 => zfh a c h0 h1
theorem set_2 (a b : UInt8) : ∀ c : Int, 0 ≤ c → c < 256 → (0 ≤ Lib.indexByte [a, b] c.toNat.toUInt8 ↔ c = (a.toNat : Int) ∨ c = (b.toNat : Int)) := fun c h0 h1 => by rw [zbq _ _ _ h0 h1, zfh _ _ h0 h1]

theorem zdd (s : List UInt8) (i : Nat) (hs : s.length ≤ 1048576) (hi : i ≤ s.length) :
    CtrO Tryz.prog 136 [.pv 5 0, .pv 6 0, .pv 1 0] (pO3 s i) (.s (dgT s i)) (pO3 s ((i + (dgT s i).length : Nat) : Int)) := by
  refine zbi Tryz.func136 rfl Tryz.ntmps136 Tryz.results136 rfl rfl rfl rfl rfl fun X hL hX => ?_
  repeat' (first |with_reducible (first |refine zaK ?_|refine zaj ?_|refine zaL ?_|refine zaB ?_|refine zaO ?_|refine zaD ?_|refine zaC ?_|refine zar ?_|refine zaq ?_|refine zaI ?_|refine zaE ?_|refine zas ?_|refine zaH ?_)|refine zaw rfl rfl True.intro ?_|refine zau rfl rfl rfl ?_|refine zao rfl rfl rfl ?_|refine zag rfl rfl rfl rfl True.intro ?_|refine zaF rfl ?_|refine zat rfl ?_|((first |refine zal rfl ?_ ?_|refine zan rfl ?_ ?_|refine zak rfl ?_ ?_|refine zam rfl ?_ ?_|refine zap rfl ?_ ?_|refine zaA rfl ?_ ?_|refine zad rfl rfl ?_ ?_|refine zae rfl rfl ?_ ?_|refine zaf rfl rfl ?_ ?_|refine zac rfl rfl ?_ ?_|refine zab rfl rfl ?_ ?_)<;>intro<;>try (first |contradiction|(exfalso;omega)))|((first |refine zaw rfl rfl ?_ ?_|refine zag rfl rfl rfl rfl ?_ ?_|refine zaM rfl rfl ?_ ?_|refine zaJ rfl ?_ ?_|refine zaG rfl rfl rfl rfl ?_ ?_);focus (first |omega|exact le_ rfl|((repeat first |rw [zay]|rw [wi6_]|rw [wi3_]|rw [zai]|rw [zah]);(repeat' refine And.intro ?_ ?_)<;>omega)|((repeat' refine And.intro ?_ ?_)<;>first |omega|rfl|exact Nat.le_refl _|exact le_ rfl|exact zaa _)|(simp_all;done)|(simp_all;omega)))|refine zaP rfl ?_|refine zaz rfl ?_|with_reducible refine ⟨by kernel_rfl, ?_⟩|refine zbf rfl ?_ ?_|refine zbg rfl ?_ ?_|((with_reducible refine zaN ?_);(fail_if_success (refine zax true rfl rfl rfl ?_));(fail_if_success (refine zax false rfl rfl rfl ?_));refine zav rfl rfl (fun _ => ?_) (fun _ => ?_)))
  refine T.loop hL (fun k : Nat => [(0, .pv 5 0), (1, .pv 6 0), (2, .pv 1 0), (4, .i .i64 i)]) (fun k => pO3 s k) (fun k => i ≤ k ∧ k ≤ s.length ∧ k + (dgT s k).length = i + (dgT s i).length) (fun k => s.length - k) i ⟨Nat.le_refl _, hi, rfl⟩
    ⟨⟨rfl, rfl, rfl, rfl, trivial⟩, ⟨rfl, rfl, rfl, trivial⟩, rfl, by rw [hX]; intro k hk; exact hk⟩ ?_
  rintro k ⟨g1, g2, g3⟩
  have c1 := zmt _ (fun c => 48 ≤ c ∧ c ≤ 57) zkd s k hs g2
  by_cases hd : k < s.length ∧ 48 ≤ at' s k ∧ at' s k ≤ 57
  · rw [decide_eq_true (by exact hd)] at c1
    have h2 := zmI hd.1 hd.2
    have g3 := fun _ : Unit => g3
    repeat' (first |with_reducible (first |refine zaK ?_|refine zaj ?_|refine zaL ?_|refine zaB ?_|refine zaO ?_|refine zaD ?_|refine zaC ?_|refine zar ?_|refine zaq ?_|refine zaI ?_|refine zaE ?_|refine zas ?_|refine zaH ?_)|refine zaw rfl rfl True.intro ?_|refine zau rfl rfl rfl ?_|refine zao rfl rfl rfl ?_|refine zag rfl rfl rfl rfl True.intro ?_|refine zaF rfl ?_|refine zat rfl ?_|((first |refine zal rfl ?_ ?_|refine zan rfl ?_ ?_|refine zak rfl ?_ ?_|refine zam rfl ?_ ?_|refine zap rfl ?_ ?_|refine zaA rfl ?_ ?_|refine zad rfl rfl ?_ ?_|refine zae rfl rfl ?_ ?_|refine zaf rfl rfl ?_ ?_|refine zac rfl rfl ?_ ?_|refine zab rfl rfl ?_ ?_)<;>intro<;>try (first |contradiction|(exfalso;omega)))|((first |refine zaw rfl rfl ?_ ?_|refine zag rfl rfl rfl rfl ?_ ?_|refine zaM rfl rfl ?_ ?_|refine zaJ rfl ?_ ?_|refine zaG rfl rfl rfl rfl ?_ ?_);focus (first |omega|exact le_ rfl|((repeat first |rw [zay]|rw [wi6_]|rw [wi3_]|rw [zai]|rw [zah]);(repeat' refine And.intro ?_ ?_)<;>omega)|((repeat' refine And.intro ?_ ?_)<;>first |omega|rfl|exact Nat.le_refl _|exact le_ rfl|exact zaa _)|(simp_all;done)|(simp_all;omega)))|refine zaP rfl ?_|refine zaz rfl ?_|with_reducible refine ⟨by kernel_rfl, ?_⟩|refine zbf rfl ?_ ?_|refine zbg rfl ?_ ?_|refine zaV (f := 135) 5 1 rfl rfl Tryz.call135 rfl rfl rfl rfl rfl rfl rfl rfl rfl c1 ?_|((with_reducible refine zaN ?_);(fail_if_success (refine zax true rfl rfl rfl ?_));(fail_if_success (refine zax false rfl rfl rfl ?_));refine zav rfl rfl (fun _ => ?_) (fun _ => ?_)))
    exact ⟨k + 1, ⟨by omega, by omega, by rw [← g3 (), h2, List.length_cons]; omega⟩, by omega, ⟨rfl, rfl, rfl, rfl, trivial⟩, ⟨rfl, rfl, rfl, trivial⟩, rfl, by rw [hX]; intro k hk; exact hk⟩
  · rw [decide_eq_false (by exact hd)] at c1
    have h2 : dgT s k = [] := zjn (by
      by_cases h : k < s.length
      · exact .inr (fun h3 => hd ⟨h, h3⟩)
      · exact .inl h)
    rw [h2] at g3
    have hk : k = i + (dgT s i).length := by simpa using g3
    have hcut := fun _ : Unit => zov s i
    subst hk
    clear g3 h2
    repeat' (first |with_reducible (first |refine zaK ?_|refine zaj ?_|refine zaL ?_|refine zaB ?_|refine zaO ?_|refine zaD ?_|refine zaC ?_|refine zar ?_|refine zaq ?_|refine zaI ?_|refine zaE ?_|refine zas ?_|refine zaH ?_)|refine zaw rfl rfl True.intro ?_|refine zau rfl rfl rfl ?_|refine zao rfl rfl rfl ?_|refine zag rfl rfl rfl rfl True.intro ?_|refine zaF rfl ?_|refine zat rfl ?_|((first |refine zal rfl ?_ ?_|refine zan rfl ?_ ?_|refine zak rfl ?_ ?_|refine zam rfl ?_ ?_|refine zap rfl ?_ ?_|refine zaA rfl ?_ ?_|refine zad rfl rfl ?_ ?_|refine zae rfl rfl ?_ ?_|refine zaf rfl rfl ?_ ?_|refine zac rfl rfl ?_ ?_|refine zab rfl rfl ?_ ?_)<;>intro<;>try (first |contradiction|(exfalso;omega)))|((first |refine zaw rfl rfl ?_ ?_|refine zag rfl rfl rfl rfl ?_ ?_|refine zaM rfl rfl ?_ ?_|refine zaJ rfl ?_ ?_|refine zaG rfl rfl rfl rfl ?_ ?_);focus (first |omega|exact le_ rfl|((repeat first |rw [zay]|rw [wi6_]|rw [wi3_]|rw [zai]|rw [zah]);(repeat' refine And.intro ?_ ?_)<;>omega)|((repeat' refine And.intro ?_ ?_)<;>first |omega|rfl|exact Nat.le_refl _|exact le_ rfl|exact zaa _)|(simp_all;done)|(simp_all;omega)))|refine zaP rfl ?_|refine zaz rfl ?_|with_reducible refine ⟨by kernel_rfl, ?_⟩|refine zbf rfl ?_ ?_|refine zbg rfl ?_ ?_|refine zaV (f := 135) 5 1 rfl rfl Tryz.call135 rfl rfl rfl rfl rfl rfl rfl rfl rfl c1 ?_|((with_reducible refine zaN ?_);(fail_if_success (refine zax true rfl rfl rfl ?_));(fail_if_success (refine zax false rfl rfl rfl ?_));refine zav rfl rfl (fun _ => ?_) (fun _ => ?_)))
    · exact congrArg D.s (by rw [Int.toNat_natCast, Int.toNat_natCast]; exact hcut ())
    · exact ⟨⟨rfl, rfl, rfl, trivial⟩⟩

theorem zhI (l : List UInt8) (c : UInt8) : powP (l ++ [c]) = min (10 * powP l + ((c.toNat : Int) - 48)) 1099511627776 := by simp [powP]

theorem zmv (x : List UInt8) (hx : ∀ c ∈ x, isD c = true) (hs : x.length ≤ 1048576) : Ctr Tryz.prog 137 [.s x] (.i .i64 (powP x)) := by
  refine zbe Tryz.func137 rfl Tryz.ntmps137 Tryz.results137 rfl rfl fun X hL hX => ?_
  repeat' (first |with_reducible (first |refine zaK ?_|refine zaj ?_|refine zaL ?_|refine zaB ?_|refine zaO ?_|refine zaD ?_|refine zaC ?_|refine zar ?_|refine zaq ?_|refine zaI ?_|refine zaE ?_|refine zas ?_|refine zaH ?_)|refine zaw rfl rfl True.intro ?_|refine zau rfl rfl rfl ?_|refine zao rfl rfl rfl ?_|refine zag rfl rfl rfl rfl True.intro ?_|refine zaF rfl ?_|refine zat rfl ?_|((first |refine zal rfl ?_ ?_|refine zan rfl ?_ ?_|refine zak rfl ?_ ?_|refine zam rfl ?_ ?_|refine zap rfl ?_ ?_|refine zaA rfl ?_ ?_|refine zad rfl rfl ?_ ?_|refine zae rfl rfl ?_ ?_|refine zaf rfl rfl ?_ ?_|refine zac rfl rfl ?_ ?_|refine zab rfl rfl ?_ ?_)<;>intro<;>try (first |contradiction|(exfalso;omega)))|((first |refine zaw rfl rfl ?_ ?_|refine zag rfl rfl rfl rfl ?_ ?_|refine zaM rfl rfl ?_ ?_|refine zaJ rfl ?_ ?_|refine zaG rfl rfl rfl rfl ?_ ?_);focus (first |omega|exact le_ rfl|((repeat first |rw [zay]|rw [wi6_]|rw [wi3_]|rw [zai]|rw [zah]);(repeat' refine And.intro ?_ ?_)<;>omega)|((repeat' refine And.intro ?_ ?_)<;>first |omega|rfl|exact Nat.le_refl _|exact le_ rfl|exact zaa _)|(simp_all;done)|(simp_all;omega)))|refine zaP rfl ?_|refine zaz rfl ?_|with_reducible refine ⟨by kernel_rfl, ?_⟩|refine zaQ rfl ?_|((with_reducible refine zaN ?_);(fail_if_success (refine zax true rfl rfl rfl ?_));(fail_if_success (refine zax false rfl rfl rfl ?_));refine zav rfl rfl (fun _ => ?_) (fun _ => ?_)))
  refine T.loop hL (fun y : Nat × Int => [(0, .s x), (3, .i .i64 y.2), (6, .i .i64 x.length), (7, .i .i64 y.1)]) (fun _ => []) (fun y => y.1 ≤ x.length ∧ 0 ≤ y.2 ∧ y.2 ≤ 1099511627776 ∧ y.2 = powP (x.take y.1)) (fun y => x.length - y.1) (0, 0) ⟨Nat.zero_le _, by decide, by decide, rfl⟩
    ⟨⟨rfl, rfl, rfl, rfl, trivial⟩, trivial, rfl, by rw [hX]; intro k hk; cases hk⟩ ?_
  rintro ⟨i, n⟩ ⟨g1, g2, g3, g4⟩
  dsimp only at g1 g2 g3 g4 ⊢
  have hd : i < x.length → 48 ≤ at' x i ∧ at' x i ≤ 57 := fun h => zcm.1 (hx _ (by simp [List.getD_eq_getElem?_getD, h]))
  have g4 := fun _ : Unit => g4
  have hw : i < x.length → IntKind.i64.wrap (IntKind.u8.wrap (at' x i - 48)) = at' x i - 48 := fun h => by
    have := hd h
    rw [zay, wi6_]
    omega
  by_cases hi : i < x.length
  · have hw := hw hi
    have hd := hd hi
    repeat' (first |with_reducible (first |refine zaK ?_|refine zaj ?_|refine zaL ?_|refine zaB ?_|refine zaO ?_|refine zaD ?_|refine zaC ?_|refine zar ?_|refine zaq ?_|refine zaI ?_|refine zaE ?_|refine zas ?_|refine zaH ?_)|refine zaw rfl rfl True.intro ?_|refine zau rfl rfl rfl ?_|refine zao rfl rfl rfl ?_|refine zag rfl rfl rfl rfl True.intro ?_|refine zaF rfl ?_|refine zat rfl ?_|((first |refine zal rfl ?_ ?_|refine zan rfl ?_ ?_|refine zak rfl ?_ ?_|refine zam rfl ?_ ?_|refine zap rfl ?_ ?_|refine zaA rfl ?_ ?_|refine zad rfl rfl ?_ ?_|refine zae rfl rfl ?_ ?_|refine zaf rfl rfl ?_ ?_|refine zac rfl rfl ?_ ?_|refine zab rfl rfl ?_ ?_)<;>intro<;>try (first |(rename_i hz;first |exact tf_ hz|exact ft_ hz)|(exfalso;omega)))|((first |refine zaw rfl rfl ?_ ?_|refine zag rfl rfl rfl rfl ?_ ?_|refine zaM rfl rfl ?_ ?_|refine zaJ rfl ?_ ?_|refine zaG rfl rfl rfl rfl ?_ ?_);focus (first |(rw [hw];(repeat' refine And.intro ?_ ?_)<;>omega)|omega|exact le_ rfl|((repeat first |rw [zay]|rw [wi6_]|rw [wi3_]|rw [zai]|rw [zah]);(repeat' refine And.intro ?_ ?_)<;>omega)|((repeat' refine And.intro ?_ ?_)<;>first |omega|rfl|exact Nat.le_refl _|exact le_ rfl|exact zaa _)|(simp_all;done)|(simp_all;omega)))|refine zaP rfl ?_|refine zaz rfl ?_|with_reducible refine ⟨by kernel_rfl, ?_⟩|refine zaQ rfl ?_|((with_reducible refine zaN ?_);(fail_if_success (refine zax true rfl rfl rfl ?_));(fail_if_success (refine zax false rfl rfl rfl ?_));refine zav rfl rfl (fun _ => ?_) (fun _ => ?_)))
    refine ⟨(i + 1, min (10 * n + IntKind.i64.wrap (IntKind.u8.wrap (at' x i - 48))) 1099511627776), ⟨by dsimp only; omega, by dsimp only; omega, by dsimp only; omega, ?_⟩, by dsimp only; omega, ⟨rfl, rfl, rfl, rfl, trivial⟩, trivial, rfl, by rw [hX]; intro k hk; cases hk⟩
    dsimp only
    rw [hw, zlO x i hi, zhI, ← g4 ()]
    rfl
  ·
    repeat' (first |with_reducible (first |refine zaK ?_|refine zaj ?_|refine zaL ?_|refine zaB ?_|refine zaO ?_|refine zaD ?_|refine zaC ?_|refine zar ?_|refine zaq ?_|refine zaI ?_|refine zaE ?_|refine zas ?_|refine zaH ?_)|refine zaw rfl rfl True.intro ?_|refine zau rfl rfl rfl ?_|refine zao rfl rfl rfl ?_|refine zag rfl rfl rfl rfl True.intro ?_|refine zaF rfl ?_|refine zat rfl ?_|((first |refine zal rfl ?_ ?_|refine zan rfl ?_ ?_|refine zak rfl ?_ ?_|refine zam rfl ?_ ?_|refine zap rfl ?_ ?_|refine zaA rfl ?_ ?_|refine zad rfl rfl ?_ ?_|refine zae rfl rfl ?_ ?_|refine zaf rfl rfl ?_ ?_|refine zac rfl rfl ?_ ?_|refine zab rfl rfl ?_ ?_)<;>intro<;>try (first |(rename_i hz;first |exact tf_ hz|exact ft_ hz)|(exfalso;omega)))|((first |refine zaw rfl rfl ?_ ?_|refine zag rfl rfl rfl rfl ?_ ?_|refine zaM rfl rfl ?_ ?_|refine zaJ rfl ?_ ?_|refine zaG rfl rfl rfl rfl ?_ ?_);focus (first |omega|exact le_ rfl|((repeat first |rw [zay]|rw [wi6_]|rw [wi3_]|rw [zai]|rw [zah]);(repeat' refine And.intro ?_ ?_)<;>omega)|((repeat' refine And.intro ?_ ?_)<;>first |omega|rfl|exact Nat.le_refl _|exact le_ rfl|exact zaa _)|(simp_all;done)|(simp_all;omega)))|refine zaP rfl ?_|refine zaz rfl ?_|with_reducible refine ⟨by kernel_rfl, ?_⟩|refine zaQ rfl ?_|((with_reducible refine zaN ?_);(fail_if_success (refine zax true rfl rfl rfl ?_));(fail_if_success (refine zax false rfl rfl rfl ?_));refine zav rfl rfl (fun _ => ?_) (fun _ => ?_)))
    rw [g4 (), List.take_of_length_le (by omega)]

abbrev pOw (s : List UInt8) (i : Int) : Ow := [(5, .var [.i .i64 i]), (6, .var [pF]), (1, .var [.s s]), (2, .var [.b false, .s [], .i .i64 0])]
abbrev pG : D := .fn 136 [.pv 5 0, .pv 6 0, .pv 1 0]

theorem zgx (a : UInt8) (n : Int) (hn : (a.toNat : Int) = n) (s : List UInt8) (i : Nat) (hs : s.length ≤ 1048576) (hi : i ≤ s.length) : CtrO Tryz.prog 135 [.s [a], .pv 5 0, .pv 1 0] (pO s i) (.b (decide (sat s i n))) (pO s i) := by
  subst hn
  exact zmt [a] (fun c => c = (a.toNat : Int)) (set_1 a) s i hs hi
theorem zlT (a b : UInt8) (n m : Int) (hn : (a.toNat : Int) = n) (hm : (b.toNat : Int) = m) (s : List UInt8) (i : Nat) (hs : s.length ≤ 1048576) (hi : i ≤ s.length) : CtrO Tryz.prog 135 [.s [a, b], .pv 5 0, .pv 1 0] (pO s i) (.b (decide (sat s i n ∨ sat s i m))) (pO s i) := by
  subst hn hm
  have := zmt [a, b] (fun c => c = (a.toNat : Int) ∨ c = (b.toNat : Int)) (set_2 a b) s i hs hi
  rwa [show decide (i < s.length ∧ (at' s i = (a.toNat : Int) ∨ at' s i = (b.toNat : Int))) = decide (sat s i (a.toNat : Int) ∨ sat s i (b.toNat : Int)) from decide_eq_decide.2 (by unfold sat; constructor <;> intro h <;> omega)] at this

section
variable {s : List UInt8} {i : Nat}
theorem zkZ (h : sat s i 48) : whN s i = ([48], i + 1) := if_pos h
theorem zma (h : ¬ sat s i 48) : whN s i = (dgT s i, i + (dgT s i).length) := if_neg h
theorem zpx (h : i ≤ s.length) : (whN s i).2 ≤ s.length := by
  have := zcN s i
  unfold whN
  split
  · rename_i h1
    have := h1.1
    dsimp only
    omega
  · dsimp only
    omega
theorem zkR (h : sat s i 46) (h2 : ¬ dgT s (i + 1) = []) : frN s i = (dgT s (i + 1), i + 1 + (dgT s (i + 1)).length) := if_pos ⟨h, h2⟩
theorem zlQ (h : ¬ sat s i 46 ∨ dgT s (i + 1) = []) : frN s i = ([], i) := if_neg fun h2 => by
  rcases h with h | h
  · exact h h2.1
  · exact h2.2 h
theorem zpr (h : i ≤ s.length) : (frN s i).2 ≤ s.length := by
  have := zcN s (i + 1)
  unfold frN
  split
  · rename_i h1
    have := h1.1.1
    dsimp only
    omega
  · exact h
theorem sgN_le (h : i ≤ s.length) : sgN s i ≤ s.length := by
  unfold sgN
  split
  · rename_i h1
    rcases h1 with h1 | h1
    · exact h1.1
    · exact h1.1
  · exact h
theorem zhQ {pw : List UInt8 → Int} (h : ¬ (sat s i 101 ∨ sat s i 69) ∨ dgT s (sgN s (i + 1)) = []) : exN pw s i = (0, i) := if_neg fun h2 => by
  rcases h with h | h
  · exact h h2.1
  · exact h2.2 h
theorem zhV {pw : List UInt8 → Int} (h : sat s i 101 ∨ sat s i 69) (h2 : ¬ dgT s (sgN s (i + 1)) = []) : exN pw s i = (if sat s (i + 1) 45 then -pw (dgT s (sgN s (i + 1))) else pw (dgT s (sgN s (i + 1))), sgN s (i + 1) + (dgT s (sgN s (i + 1))).length) := if_pos ⟨h, h2⟩
theorem zpL : sg0 s ≤ s.length := by
  unfold sg0
  split
  · rename_i h
    exact h.1
  · exact Nat.zero_le _
end

set_option maxHeartbeats 4000000 in
theorem zlG (s : List UInt8) (hs : s.length ≤ 1048576) : Ctr Tryz.prog 111 [.s s] (.tu [dcV (parseG powP s).1, .i .i64 (parseG powP s).2.1, .i .i64 (parseG powP s).2.2]) := by
  generalize hR : parseG powP s = R
  unfold parseG at hR
  replace hR := fun _ : Unit => hR.symm
  refine zbe Tryz.func111 rfl Tryz.ntmps111 Tryz.results111 rfl rfl fun X hL hX => ?_
  have c1 := zgx 45 45 rfl s 0 hs (Nat.zero_le _)
  have e5 : sat s 0 45 → (0 : Int) + 1 = (sg0 s : Int) := fun h => by unfold sg0; rw [if_pos h]; rfl
  have e5' : ¬ sat s 0 45 → (0 : Int) = (sg0 s : Int) := fun h => by unfold sg0; rw [if_neg h]; rfl
  repeat' (first |refine zly 5 hL (fun _ : Unit => [(2, .pv 2 0), (5, .pv 5 0), (6, .pv 6 0), (7, pG), (8, .b (decide (sat s 0 45)))]) (fun _ => pOw s (sg0 s)) (fun _ => True) ?_ ?_|with_reducible (first |refine zaK ?_|refine zaj ?_|refine zaL ?_|refine zaB ?_|refine zaO ?_|refine zaD ?_|refine zaC ?_|refine zar ?_|refine zaq ?_|refine zaI ?_|refine zaE ?_|refine zas ?_|refine zaH ?_)|refine zaw rfl rfl True.intro ?_|refine zau rfl rfl rfl ?_|refine zao rfl rfl rfl ?_|refine zag rfl rfl rfl rfl True.intro ?_|refine zaF rfl ?_|refine zat rfl ?_|((first |refine zal rfl ?_ ?_|refine zan rfl ?_ ?_|refine zak rfl ?_ ?_|refine zam rfl ?_ ?_|refine zap rfl ?_ ?_|refine zaA rfl ?_ ?_|refine zad rfl rfl ?_ ?_|refine zae rfl rfl ?_ ?_|refine zaf rfl rfl ?_ ?_|refine zac rfl rfl ?_ ?_|refine zab rfl rfl ?_ ?_)<;>intro<;>try (first |contradiction|(exfalso;omega)))|((first |refine zaw rfl rfl ?_ ?_|refine zag rfl rfl rfl rfl ?_ ?_|refine zaM rfl rfl ?_ ?_|refine zaJ rfl ?_ ?_|refine zaG rfl rfl rfl rfl ?_ ?_);focus (first |omega|exact le_ rfl|((repeat first |rw [zay]|rw [wi6_]|rw [wi3_]|rw [zai]|rw [zah]);(repeat' refine And.intro ?_ ?_)<;>omega)|((repeat' refine And.intro ?_ ?_)<;>first |omega|rfl|exact Nat.le_refl _|exact le_ rfl|exact zaa _)|(simp_all;done)|(simp_all;omega)))|refine zaP rfl ?_|refine zaz rfl ?_|with_reducible refine ⟨by kernel_rfl, ?_⟩|refine zaV (f := 135) 5 1 rfl rfl Tryz.call135 rfl rfl rfl rfl rfl rfl rfl rfl rfl c1 ?_|((with_reducible refine zaN ?_);(fail_if_success (refine zax true rfl rfl rfl ?_));(fail_if_success (refine zax false rfl rfl rfl ?_));refine zav rfl rfl (fun _ => ?_) (fun _ => ?_)))
  · exact ⟨(), trivial, ⟨rfl, rfl, rfl, rfl, rfl, trivial⟩, ⟨congrArg (fun x => some (Own.var [.i .i64 x])) (e5 ‹_›), rfl, rfl, rfl, trivial⟩, rfl, by rw [hX]; intro k hk; cases hk⟩
  · exact ⟨(), trivial, ⟨rfl, rfl, rfl, rfl, rfl, trivial⟩, ⟨congrArg (fun x => some (Own.var [.i .i64 x])) (e5' ‹_›), rfl, rfl, rfl, trivial⟩, rfl, by rw [hX]; intro k hk; cases hk⟩
  clear c1 e5 e5'
  intro _ _
  have hi := zpL (s := s)
  generalize sg0 s = i at hR hi ⊢
  have c1 := zgx 48 48 rfl s i hs hi
  have c2 := zdd s i hs hi
  have L1 := fun h => zkZ (s := s) (i := i) h
  have L2 := fun h => zma (s := s) (i := i) h
  repeat' (first |refine zly 8 hL (fun _ : Unit => [(2, .pv 2 0), (5, .pv 5 0), (6, .pv 6 0), (7, pG), (8, .b (decide (sat s 0 45))), (9, .s (whN s i).1)]) (fun _ => pOw s (whN s i).2) (fun _ => ¬ (whN s i).1 = []) ?_ ?_|with_reducible (first |refine zaK ?_|refine zaj ?_|refine zaL ?_|refine zaB ?_|refine zaO ?_|refine zaD ?_|refine zaC ?_|refine zar ?_|refine zaq ?_|refine zaI ?_|refine zaE ?_|refine zas ?_|refine zaH ?_)|refine zaw rfl rfl True.intro ?_|refine zau rfl rfl rfl ?_|refine zao rfl rfl rfl ?_|refine zag rfl rfl rfl rfl True.intro ?_|refine zaF rfl ?_|refine zat rfl ?_|((first |refine zal rfl ?_ ?_|refine zan rfl ?_ ?_|refine zak rfl ?_ ?_|refine zam rfl ?_ ?_|refine zap rfl ?_ ?_|refine zaA rfl ?_ ?_|refine zad rfl rfl ?_ ?_|refine zae rfl rfl ?_ ?_|refine zaf rfl rfl ?_ ?_|refine zac rfl rfl ?_ ?_|refine zab rfl rfl ?_ ?_)<;>intro<;>try (first |contradiction|(exfalso;omega)))|((first |refine zaw rfl rfl ?_ ?_|refine zag rfl rfl rfl rfl ?_ ?_|refine zaM rfl rfl ?_ ?_|refine zaJ rfl ?_ ?_|refine zaG rfl rfl rfl rfl ?_ ?_);focus (first |omega|exact le_ rfl|((repeat first |rw [zay]|rw [wi6_]|rw [wi3_]|rw [zai]|rw [zah]);(repeat' refine And.intro ?_ ?_)<;>omega)|((repeat' refine And.intro ?_ ?_)<;>first |omega|rfl|exact Nat.le_refl _|exact le_ rfl|exact zaa _)|(simp_all;done)|(simp_all;omega)))|refine zaP rfl ?_|refine zaz rfl ?_|with_reducible refine ⟨by kernel_rfl, ?_⟩|refine zaQ rfl ?_|refine zaV (f := 135) 5 1 rfl rfl Tryz.call135 rfl rfl rfl rfl rfl rfl rfl rfl rfl c1 ?_|refine zgh (f := 136) 5 6 1 rfl rfl Tryz.call136 rfl rfl rfl rfl rfl rfl rfl rfl rfl rfl rfl rfl c2 ?_|((with_reducible refine zaN ?_);(fail_if_success (refine zax true rfl rfl rfl ?_));(fail_if_success (refine zax false rfl rfl rfl ?_));refine zav rfl rfl (fun _ => ?_) (fun _ => ?_)))
  · rw [L1 ‹_›]
    exact ⟨(), by simp, ⟨rfl, rfl, rfl, rfl, rfl, rfl, trivial⟩, ⟨rfl, rfl, rfl, rfl, trivial⟩, rfl, by rw [hX]; intro k hk; cases hk⟩
  · rename_i h1 h2
    rw [hR (), if_pos (by rw [L2 h1]; exact h2)]
    rfl
  · rename_i h1 h2
    rw [L2 h1]
    exact ⟨(), h2, ⟨rfl, rfl, rfl, rfl, rfl, rfl, trivial⟩, ⟨rfl, rfl, rfl, rfl, trivial⟩, rfl, by rw [hX]; intro k hk; cases hk⟩
  clear c1 c2 L1 L2
  intro _ hw
  replace hR := fun _ : Unit => (hR ()).trans (if_neg hw)
  dsimp only at hR
  have hj := zpx hi
  have lw : (whN s i).1.length ≤ 1048577 := by
    have := zcN s i
    unfold whN
    split <;> dsimp only [List.length_cons, List.length_nil] <;> omega
  generalize whN s i = W at hR hw hj lw ⊢
  obtain ⟨w, j⟩ := W
  dsimp only at hR hw hj lw ⊢
  clear hi hw i
  have c1 := zgx 46 46 rfl s j hs hj
  have c2 := fun h : sat s j 46 => zdd s (j + 1) hs h.1
  have L1 := fun h h2 => zkR (s := s) (i := j) h h2
  have L2 := fun h => zlQ (s := s) (i := j) h
  repeat' (first |refine zly 15 hL (fun _ : Unit => [(2, .pv 2 0), (5, .pv 5 0), (6, .pv 6 0), (7, pG), (8, .b (decide (sat s 0 45))), (9, .s w), (10, .s (frN s j).1)]) (fun _ => pOw s (frN s j).2) (fun _ => True) ?_ ?_|with_reducible (first |refine zaK ?_|refine zaj ?_|refine zaL ?_|refine zaB ?_|refine zaO ?_|refine zaD ?_|refine zaC ?_|refine zar ?_|refine zaq ?_|refine zaI ?_|refine zaE ?_|refine zas ?_|refine zaH ?_)|refine zaw rfl rfl True.intro ?_|refine zau rfl rfl rfl ?_|refine zao rfl rfl rfl ?_|refine zag rfl rfl rfl rfl True.intro ?_|refine zaF rfl ?_|refine zat rfl ?_|((first |refine zal rfl ?_ ?_|refine zan rfl ?_ ?_|refine zak rfl ?_ ?_|refine zam rfl ?_ ?_|refine zap rfl ?_ ?_|refine zaA rfl ?_ ?_|refine zad rfl rfl ?_ ?_|refine zae rfl rfl ?_ ?_|refine zaf rfl rfl ?_ ?_|refine zac rfl rfl ?_ ?_|refine zab rfl rfl ?_ ?_)<;>intro<;>try (first |contradiction|(exfalso;omega)))|((first |refine zaw rfl rfl ?_ ?_|refine zag rfl rfl rfl rfl ?_ ?_|refine zaM rfl rfl ?_ ?_|refine zaJ rfl ?_ ?_|refine zaG rfl rfl rfl rfl ?_ ?_);focus (first |omega|exact le_ rfl|((repeat first |rw [zay]|rw [wi6_]|rw [wi3_]|rw [zai]|rw [zah]);(repeat' refine And.intro ?_ ?_)<;>omega)|((repeat' refine And.intro ?_ ?_)<;>first |omega|rfl|exact Nat.le_refl _|exact le_ rfl|exact zaa _)|(simp_all;done)|(simp_all;omega)))|refine zaP rfl ?_|refine zaz rfl ?_|with_reducible refine ⟨by kernel_rfl, ?_⟩|refine zaV (f := 135) 5 1 rfl rfl Tryz.call135 rfl rfl rfl rfl rfl rfl rfl rfl rfl c1 ?_|refine zgh (f := 136) 5 6 1 rfl rfl Tryz.call136 rfl rfl rfl rfl rfl rfl rfl rfl rfl rfl rfl rfl (c2 ‹_›) ?_|((with_reducible refine zaN ?_);(fail_if_success (refine zax true rfl rfl rfl ?_));(fail_if_success (refine zax false rfl rfl rfl ?_));refine zav rfl rfl (fun _ => ?_) (fun _ => ?_)))
  · rename_i h1 h2
    rw [L2 (.inr h2)]
    exact ⟨(), trivial, ⟨rfl, rfl, rfl, rfl, rfl, rfl, congrArg D.s h2, trivial⟩, ⟨rfl, rfl, rfl, rfl, trivial⟩, rfl, by rw [hX]; intro k hk; cases hk⟩
  · rename_i h1 h2
    rw [L1 h1 h2]
    exact ⟨(), trivial, ⟨rfl, rfl, rfl, rfl, rfl, rfl, rfl, trivial⟩, ⟨rfl, rfl, rfl, rfl, trivial⟩, rfl, by rw [hX]; intro k hk; cases hk⟩
  · rename_i h1
    rw [L2 (.inl h1)]
    exact ⟨(), trivial, ⟨rfl, rfl, rfl, rfl, rfl, rfl, rfl, trivial⟩, ⟨rfl, rfl, rfl, rfl, trivial⟩, rfl, by rw [hX]; intro k hk; cases hk⟩
  clear c1 c2 L1 L2
  intro _ _
  have hk := zpr hj
  have lf : (frN s j).1.length ≤ 1048577 := by
    have := zcN s (j + 1)
    unfold frN
    split <;> dsimp only [List.length_cons, List.length_nil] <;> omega
  generalize frN s j = W at hR hk lf ⊢
  obtain ⟨f, k⟩ := W
  dsimp only at hR hk lf ⊢
  have c1 := zlT 101 69 101 69 rfl rfl s k hs hk
  have c2 := fun h : k + 1 ≤ s.length => zgx 45 45 rfl s (k + 1) hs h
  have c3 := fun h : k + 1 ≤ s.length => zlT 43 45 43 45 rfl rfl s (k + 1) hs h
  have c4a := fun (h : k + 1 ≤ s.length) (h2 : sat s (k + 1) 43 ∨ sat s (k + 1) 45) => zdd s (k + 1 + 1) hs (by rcases h2 with h2 | h2; exact h2.1; exact h2.1)
  have c4b := fun (h : k + 1 ≤ s.length) (_ : ¬ (sat s (k + 1) 43 ∨ sat s (k + 1) 45)) => zdd s (k + 1) hs h
  have c5 := fun p => zmv (dgT s p) (zhv _ _) (by have := zcN s p; omega)
  have hp := fun p => (⟨(zpU (dgT s p) (zhv _ _)).1, zkP (dgT s p) 0 (by omega)⟩ : 0 ≤ powP (dgT s p) ∧ powP (dgT s p) ≤ 1099511627776)
  have hp1 := hp (k + 1)
  have hp2 := hp (k + 1 + 1)
  have hs1 : (sat s k 101 ∨ sat s k 69) → k + 1 ≤ s.length := fun h => by
    rcases h with h | h
    · exact h.1
    · exact h.1
  have g1 : (sat s (k + 1) 43 ∨ sat s (k + 1) 45) → sgN s (k + 1) = k + 1 + 1 := fun h => if_pos h
  have g2 : ¬ (sat s (k + 1) 43 ∨ sat s (k + 1) 45) → sgN s (k + 1) = k + 1 := fun h => if_neg h
  have L1 : ∀ p, sgN s (k + 1) = p → (sat s k 101 ∨ sat s k 69) → ¬ dgT s p = [] → exN powP s k = (if sat s (k + 1) 45 then -powP (dgT s p) else powP (dgT s p), p + (dgT s p).length) := fun p hp h h2 => by
    subst hp
    exact zhV h h2
  have L2 : ∀ p, sgN s (k + 1) = p → dgT s p = [] → exN powP s k = (0, k) := fun p hp h => by
    subst hp
    exact zhQ (.inr h)
  have L3 := fun h => zhQ (s := s) (i := k) (pw := powP) (.inl h)
  repeat' (first |refine zly 22 hL (fun _ : Unit => [(2, .pv 2 0), (5, .pv 5 0), (8, .b (decide (sat s 0 45))), (9, .s w), (10, .s f), (12, .i .i64 (exN powP s k).1)]) (fun _ => pOw s (exN powP s k).2) (fun _ => True) ?_ ?_|with_reducible (first |refine zaK ?_|refine zaj ?_|refine zaL ?_|refine zaB ?_|refine zaO ?_|refine zaD ?_|refine zaC ?_|refine zar ?_|refine zaq ?_|refine zaI ?_|refine zaE ?_|refine zas ?_|refine zaH ?_)|refine zaw rfl rfl True.intro ?_|refine zau rfl rfl rfl ?_|refine zao rfl rfl rfl ?_|refine zag rfl rfl rfl rfl True.intro ?_|refine zaF rfl ?_|refine zat rfl ?_|((first |refine zal rfl ?_ ?_|refine zan rfl ?_ ?_|refine zak rfl ?_ ?_|refine zam rfl ?_ ?_|refine zap rfl ?_ ?_|refine zaA rfl ?_ ?_|refine zad rfl rfl ?_ ?_|refine zae rfl rfl ?_ ?_|refine zaf rfl rfl ?_ ?_|refine zac rfl rfl ?_ ?_|refine zab rfl rfl ?_ ?_)<;>intro<;>try (first |contradiction|(exfalso;omega)))|((first |refine zaw rfl rfl ?_ ?_|refine zag rfl rfl rfl rfl ?_ ?_|refine zaM rfl rfl ?_ ?_|refine zaJ rfl ?_ ?_|refine zaG rfl rfl rfl rfl ?_ ?_);focus (first |omega|exact le_ rfl|((repeat first |rw [zay]|rw [wi6_]|rw [wi3_]|rw [zai]|rw [zah]);(repeat' refine And.intro ?_ ?_)<;>omega)|((repeat' refine And.intro ?_ ?_)<;>first |omega|rfl|exact Nat.le_refl _|exact le_ rfl|exact zaa _)|(simp_all;done)|(simp_all;omega)))|refine zaP rfl ?_|refine zaz rfl ?_|with_reducible refine ⟨by kernel_rfl, ?_⟩|refine zaV (f := 135) 5 1 rfl rfl Tryz.call135 rfl rfl rfl rfl rfl rfl rfl rfl rfl c1 ?_|refine zaV (f := 135) 5 1 rfl rfl Tryz.call135 rfl rfl rfl rfl rfl rfl rfl rfl rfl (c2 (hs1 ‹_›)) ?_|refine zaV (f := 135) 5 1 rfl rfl Tryz.call135 rfl rfl rfl rfl rfl rfl rfl rfl rfl (c3 (hs1 ‹_›)) ?_|refine zgh (f := 136) 5 6 1 rfl rfl Tryz.call136 rfl rfl rfl rfl rfl rfl rfl rfl rfl rfl rfl rfl (c4a (hs1 ‹_›) ‹_›) ?_|refine zgh (f := 136) 5 6 1 rfl rfl Tryz.call136 rfl rfl rfl rfl rfl rfl rfl rfl rfl rfl rfl rfl (c4b (hs1 ‹_›) ‹_›) ?_|refine zaR (f := 137) rfl rfl Tryz.call137 rfl (c5 _) ?_|((with_reducible refine zaN ?_);(fail_if_success (refine zax true rfl rfl rfl ?_));(fail_if_success (refine zax false rfl rfl rfl ?_));refine zav rfl rfl (fun _ => ?_) (fun _ => ?_)))
  · rename_i h1 h2 h3
    rw [L2 _ (g1 h2) h3]
    exact ⟨(), trivial, ⟨rfl, rfl, rfl, rfl, rfl, rfl, trivial⟩, ⟨rfl, rfl, rfl, rfl, trivial⟩, rfl, by rw [hX]; intro k hk; cases hk⟩
  · rename_i h1 h2 h3 h4
    rw [L1 _ (g1 h2) h1 h3, if_pos h4]
    exact ⟨(), trivial, ⟨rfl, rfl, rfl, rfl, rfl, rfl, trivial⟩, ⟨rfl, rfl, rfl, rfl, trivial⟩, rfl, by rw [hX]; intro k hk; cases hk⟩
  · rename_i h1 h2 h3 h4
    rw [L1 _ (g1 h2) h1 h3, if_neg h4]
    exact ⟨(), trivial, ⟨rfl, rfl, rfl, rfl, rfl, rfl, trivial⟩, ⟨rfl, rfl, rfl, rfl, trivial⟩, rfl, by rw [hX]; intro k hk; cases hk⟩
  · rename_i h1 h2 h3
    rw [L2 _ (g2 h2) h3]
    exact ⟨(), trivial, ⟨rfl, rfl, rfl, rfl, rfl, rfl, trivial⟩, ⟨rfl, rfl, rfl, rfl, trivial⟩, rfl, by rw [hX]; intro k hk; cases hk⟩
  · rename_i h1 h2 h3 h4
    exact absurd (.inr h4) h2
  · rename_i h1 h2 h3 h4
    rw [L1 _ (g2 h2) h1 h3, if_neg h4]
    exact ⟨(), trivial, ⟨rfl, rfl, rfl, rfl, rfl, rfl, trivial⟩, ⟨rfl, rfl, rfl, rfl, trivial⟩, rfl, by rw [hX]; intro k hk; cases hk⟩
  · rename_i h1
    rw [L3 h1]
    exact ⟨(), trivial, ⟨rfl, rfl, rfl, rfl, rfl, rfl, trivial⟩, ⟨rfl, rfl, rfl, rfl, trivial⟩, rfl, by rw [hX]; intro k hk; cases hk⟩
  clear c1 c2 c3 c4a c4b g1 g2 L1 L2 L3 hs1 hp1 hp2
  intro _ _
  have hx : -1099511627776 ≤ (exN powP s k).1 ∧ (exN powP s k).1 ≤ 1099511627776 := by
    have := hp (sgN s (k + 1))
    unfold exN
    split
    · dsimp only
      split <;> omega
    · dsimp only
      omega
  clear hp c5
  generalize exN powP s k = W at hR hx ⊢
  obtain ⟨x, m⟩ := W
  dsimp only at hR hx ⊢
  have c1 := ziX (decide (sat s 0 45)) (w ++ f) (x - f.length) (by rw [List.length_append]; omega) (by omega) (by omega)
  generalize normF (decide (sat s 0 45)) (w ++ f) (x - f.length) = W at hR c1
  obtain ⟨⟨n1, d1, e1⟩, err⟩ := W
  dsimp only at hR c1
  repeat' (first |with_reducible (first |refine zaK ?_|refine zaj ?_|refine zaL ?_|refine zaB ?_|refine zaO ?_|refine zaD ?_|refine zaC ?_|refine zar ?_|refine zaq ?_|refine zaI ?_|refine zaE ?_|refine zas ?_|refine zaH ?_)|refine zaw rfl rfl True.intro ?_|refine zau rfl rfl rfl ?_|refine zao rfl rfl rfl ?_|refine zag rfl rfl rfl rfl True.intro ?_|refine zaF rfl ?_|refine zat rfl ?_|((first |refine zal rfl ?_ ?_|refine zan rfl ?_ ?_|refine zak rfl ?_ ?_|refine zam rfl ?_ ?_|refine zap rfl ?_ ?_|refine zaA rfl ?_ ?_|refine zad rfl rfl ?_ ?_|refine zae rfl rfl ?_ ?_|refine zaf rfl rfl ?_ ?_|refine zac rfl rfl ?_ ?_|refine zab rfl rfl ?_ ?_)<;>intro<;>try (first |(rename_i hz;first |exact tf_ hz|exact ft_ hz)|(exfalso;omega)))|((first |refine zaw rfl rfl ?_ ?_|refine zag rfl rfl rfl rfl ?_ ?_|refine zaM rfl rfl ?_ ?_|refine zaJ rfl ?_ ?_|refine zaG rfl rfl rfl rfl ?_ ?_);focus (first |(rw [List.length_append];omega)|omega|exact le_ rfl|((repeat first |rw [zay]|rw [wi6_]|rw [wi3_]|rw [zai]|rw [zah]);(repeat' refine And.intro ?_ ?_)<;>omega)|((repeat' refine And.intro ?_ ?_)<;>first |omega|rfl|exact Nat.le_refl _|exact le_ rfl|exact zaa _)|(simp_all;done)|(simp_all;omega)))|refine zaP rfl ?_|refine zaz rfl ?_|with_reducible refine ⟨by kernel_rfl, ?_⟩|refine zaQ rfl ?_|refine zaR (f := 95) rfl rfl Tryz.call95 rfl c1 ?_|((with_reducible refine zaN ?_);(fail_if_success (refine zax true rfl rfl rfl ?_));(fail_if_success (refine zax false rfl rfl rfl ?_));refine zav rfl rfl (fun _ => ?_) (fun _ => ?_)))
  · rename_i h
    rw [hR (), if_neg h]
    rfl
  · rename_i h
    rw [hR (), if_pos h]
    rfl

end Go.Proofs.YtcajofhafpkbdaaGreatDoor.Flow
