/- The texts RJ1, RJ2, RFlowPa, one behind the other. -/
import Derived.Test.YtbegohehjkjnmaaDoorMR9
import Derived.Test.YtbegohehjkjnmaaDoorMR12
namespace Go.Proofs.YtbegohehjkjnmaaDoor.Flow
open Go

inductive J where
  | mk (kind : Int) (yes neg : Bool) (dig : List UInt8) (exp : Int) (text : List UInt8) (list : List J) (keys : List (List UInt8))

def txF (l : List (List UInt8)) : Nat → List D := fun i => [.s (l.getD i [])]
mutual
def jC : J → List D
  | .mk k y n d e t l ks => [.i .i64 k, .b y, .b n, .s d, .i .i64 e, .s t, .sl 8 l.length (jF l), .sl 1 ks.length (txF ks)]
def jF : List J → Nat → List D
  | [], _ => []
  | x :: _, 0 => jC x
  | _ :: r, i + 1 => jF r i
end
def j0 : J := .mk 0 false false [] 0 [] [] []
def j0C : List D := [.i .i64 0, .b false, .b false, .s [], .i .i64 0, .s [], .nilS, .nilS]
theorem jC_len (x : J) : (jC x).length = 8 ∧ (jC x).all D.plain = true := by
  cases x
  unfold jC
  exact ⟨rfl, rfl⟩
theorem jF_at : ∀ {l : List J} {i : Nat}, i < l.length → jF l i = jC (l.getD i j0)
  | [], _, h => by simp at h
  | x :: r, 0, _ => by rw [jF]; rfl
  | x :: r, i + 1, h => by
    rw [jF, jF_at (l := r) (by simpa using h)]
    rfl

abbrev JR := Sum (J × Nat) (Nat × Int)
def blkB (c : UInt8) : Bool := decide (c = 32 ∨ c = 9 ∨ c = 10 ∨ c = 13)
def skN (s : List UInt8) (i : Nat) : Nat := i + ((s.drop i).takeWhile blkB).length
def jpeek (s : List UInt8) (i : Nat) : Sum Nat (Nat × Int) := if skN s i < s.length then .inl (skN s i) else .inr (skN s i, 2)
def jword (s : List UInt8) (i : Nat) (w : List UInt8) (x : J) : JR := if Lib.hasPrefix (s.drop i) w = true then .inl (x, i + w.length) else .inr (i, 3)
def jtext (s : List UInt8) (i : Nat) : Sum (List UInt8 × Nat) (Nat × Int) := if (unqF s i).2.2 = 0 then .inl ((unqF s i).1, (unqF s i).2.1.toNat) else .inr (i, (unqF s i).2.2)
def jnumV (r : Bool × List UInt8 × Int) : J := .mk 2 false r.1 r.2.1 r.2.2 [] [] []
def jnum (s : List UInt8) (i : Nat) : JR := if (parseG powP (s.drop i)).2.2 = 0 then .inl (jnumV (parseG powP (s.drop i)).1, i + (parseG powP (s.drop i)).2.1) else .inr (i, (parseG powP (s.drop i)).2.2)
def jkey (s : List UInt8) (i : Nat) (ks : List (List UInt8)) : Sum (List UInt8 × Nat) (Nat × Int) :=
  match jpeek s i with
  | .inr e => .inr e
  | .inl j => if ¬ at' s j = 34 then .inr (j, 3) else
    match jtext s j with
    | .inr e => .inr e
    | .inl (k, n) => if k ∈ ks then .inr (j, 3) else
      match jpeek s n with
      | .inr e => .inr e
      | .inl m => if ¬ at' s m = 58 then .inr (m, 3) else .inl (k, m + 1)
def jkeys (s : List UInt8) (mp : Bool) (i : Nat) (ks : List (List UInt8)) : Sum (List (List UInt8) × Nat) (Nat × Int) :=
  if mp = true then (match jkey s i ks with
    | .inl (k, n) => .inl (ks ++ [k], n)
    | .inr e => .inr e) else .inl (ks, i)
def kindM (mp : Bool) : Int := if mp = true then 5 else 4
def endM (mp : Bool) : Int := if mp = true then 125 else 93
def manyV (mp : Bool) (l : List J) (ks : List (List UInt8)) : J := .mk (kindM mp) false false [] 0 [] l ks
def jgo (s : List UInt8) (val : Nat → JR) (mp : Bool) (i : Nat) (l : List J) (ks : List (List UInt8)) : JR :=
  match jkeys s mp i ks with
  | .inr e => .inr e
  | .inl (ks', i1) =>
    match val i1 with
    | .inr e => .inr e
    | .inl (x, i2) =>
      match jpeek s i2 with
      | .inr e => .inr e
      | .inl i3 => if at' s i3 = endM mp then .inl (manyV mp (l ++ [x]) ks', i3 + 1)
        else if at' s i3 = 44 then (if i ≤ i3 ∧ i3 < s.length then jgo s val mp (i3 + 1) (l ++ [x]) ks' else .inr (0, 3)) else .inr (i3, 3)
termination_by s.length - i
def jmany (s : List UInt8) (val : Nat → JR) (mp : Bool) (i : Nat) : JR :=
  match jpeek s (i + 1) with
  | .inr e => .inr e
  | .inl j => if at' s j = endM mp then .inl (manyV mp [] [], j + 1) else jgo s val mp j [] []
def nullW : List UInt8 := [110, 117, 108, 108]
def trueW : List UInt8 := [116, 114, 117, 101]
def falseW : List UInt8 := [102, 97, 108, 115, 101]
def jval (s : List UInt8) : Nat → Nat → JR
  | d, i => match jpeek s i with
    | .inr e => .inr e
    | .inl j => match d with
      | 0 => .inr (j, 9)
      | d + 1 => if at' s j = 110 then jword s j nullW j0
        else if at' s j = 116 then jword s j trueW (.mk 1 true false [] 0 [] [] [])
        else if at' s j = 102 then jword s j falseW (.mk 1 false false [] 0 [] [] [])
        else if at' s j = 34 then (match jtext s j with
          | .inl (t, n) => .inl (.mk 3 false false [] 0 t [] [], n)
          | .inr e => .inr e)
        else if at' s j = 91 then jmany s (jval s d) false j
        else if at' s j = 123 then jmany s (jval s d) true j
        else jnum s j
def jparse (s : List UInt8) : J × Nat × Int := if 1048576 < s.length then (j0, 0, 5) else
  match jval s 64 0 with
  | .inr (p, e) => (j0, p, e)
  | .inl (x, n) => if skN s n < s.length then (j0, skN s n, 3) else (x, s.length, 0)

theorem skN_le {s : List UInt8} {i : Nat} (h : i ≤ s.length) : i ≤ skN s i ∧ skN s i ≤ s.length := by
  have h1 : ((s.drop i).takeWhile blkB).length ≤ (s.drop i).length := (List.takeWhile_sublist _).length_le
  rw [List.length_drop] at h1
  unfold skN
  omega
theorem skN_stop {s : List UInt8} {i : Nat} (h : skN s i < s.length) : blkB (s.getD (skN s i) 0) = false := by
  have key : ∀ q : List UInt8, (q.takeWhile blkB).length < q.length → blkB (q.getD (q.takeWhile blkB).length 0) = false := by
    intro q
    induction q with
    | nil => intro h; simp at h
    | cons c q ih =>
      intro h
      by_cases hc : blkB c = true
      · rw [List.takeWhile_cons, if_pos hc] at h ⊢
        exact ih (by simpa using h)
      · rw [List.takeWhile_cons, if_neg hc]
        simpa using hc
  have := key (s.drop i) (by unfold skN at h; rw [List.length_drop]; omega)
  unfold skN
  simpa [List.getD_eq_getElem?_getD] using this
theorem skN_stay {s : List UInt8} {i : Nat} (h : blkB (s.getD i 0) = false) : skN s i = i := by
  unfold skN
  by_cases hi : i < s.length
  · rw [List.drop_eq_getElem_cons hi, List.takeWhile_cons, if_neg]
    · rfl
    · have : s[i] = s.getD i 0 := by simp [List.getD_eq_getElem?_getD, hi]
      rw [this, h]
      exact Bool.false_ne_true
  · rw [List.drop_eq_nil_of_le (by omega)]
    rfl
theorem skN_idem {s : List UInt8} {i : Nat} (h : skN s i < s.length) : skN s (skN s i) = skN s i := skN_stay (skN_stop h)
theorem jpeek_ok {s : List UInt8} {i j : Nat} (hi : i ≤ s.length) (h : jpeek s i = .inl j) : i ≤ j ∧ j < s.length ∧ j = skN s i := by
  unfold jpeek at h
  split at h
  · cases h
    have := skN_le hi
    exact ⟨this.1, ‹_›, rfl⟩
  · cases h
theorem unqG_next (s : List UInt8) : ∀ (n : Nat) (i : Int) (o : List UInt8), 0 ≤ i → i ≤ s.length → (unqG s n i o).2.2 = 0 → i < (unqG s n i o).2.1 ∧ (unqG s n i o).2.1 ≤ s.length
  | 0, i, o, _, _, h => by
    unfold unqG at h
    cases h
  | n + 1, i, o, h0, h1, h => by
    unfold unqG at h ⊢
    by_cases hi : i < s.length
    · rw [if_pos hi] at h ⊢
      by_cases hq : at' s i = 34
      · rw [if_pos hq] at h ⊢
        by_cases hv : validL o = true
        · rw [if_pos hv]
          dsimp only
          omega
        · rw [if_neg hv] at h
          cases h
      · rw [if_neg hq] at h ⊢
        by_cases he : at' s i = 92
        · rw [if_pos he] at h ⊢
          have hr := escP_range s (i + 1) o (by omega) (by omega)
          by_cases hz : (escP s (i + 1) o).2.2 = 0
          · rw [if_pos hz] at h ⊢
            have := unqG_next s n _ _ (by omega) (by omega) h
            omega
          · rw [if_neg hz] at h
            exact absurd h hz
        · rw [if_neg he] at h ⊢
          by_cases hl : at' s i < 32
          · rw [if_pos hl] at h
            cases h
          · rw [if_neg hl] at h ⊢
            have := unqG_next s n _ _ (by omega) (by omega) h
            omega
    · rw [if_neg hi] at h
      cases h
theorem unq_next {s : List UInt8} {i : Int} (h : (unqF s i).2.2 = 0) : i < (unqF s i).2.1 ∧ (unqF s i).2.1 ≤ s.length ∧ 0 ≤ i := by
  unfold unqF at h ⊢
  by_cases hb : i < 0 ∨ s.length < i
  · rw [if_pos hb] at h
    cases h
  · rw [if_neg hb] at h ⊢
    have hm := mustF_range s i 0 34 (by omega) (by omega)
    by_cases hz : (mustF s i 0 34).2 = 0
    · rw [if_pos hz] at h ⊢
      have := unqG_next s _ _ _ (by omega) (by omega) h
      omega
    · rw [if_neg hz] at h
      exact absurd h hz
theorem jtext_ok {s t : List UInt8} {i n : Nat} (h : jtext s i = .inl (t, n)) : i < n ∧ n ≤ s.length := by
  unfold jtext at h
  split at h
  · rename_i hz
    have := unq_next hz
    cases h
    omega
  · cases h

theorem num_next (pw : List UInt8 → Int) (s : List UInt8) (h : (parseG pw s).2.2 = 0) : 0 < (parseG pw s).2.1 ∧ (parseG pw s).2.1 ≤ s.length := by
  have hd : ∀ i, (dgT s i).length ≤ s.length - i := dgT_len s
  have hs : ∀ i c, sat s i c → i < s.length := fun i c q => q.1
  have hn : ∀ i, ¬ dgT s i = [] → 0 < (dgT s i).length := fun i q => List.length_pos_iff.2 q
  unfold parseG at h ⊢
  by_cases hw : (whN s (sg0 s)).1 = []
  · rw [if_pos hw] at h
    cases h
  · rw [if_neg hw] at h ⊢
    dsimp only at h ⊢
    have w1 : 0 < (whN s (sg0 s)).2 ∧ (whN s (sg0 s)).2 ≤ s.length := by
      unfold whN at hw ⊢
      by_cases q : sat s (sg0 s) 48
      · rw [if_pos q]
        have := hs _ _ q
        dsimp only
        omega
      · rw [if_neg q] at hw ⊢
        have := hn _ hw
        have := hd (sg0 s)
        dsimp only
        omega
    have w2 : (whN s (sg0 s)).2 ≤ (frN s (whN s (sg0 s)).2).2 ∧ (frN s (whN s (sg0 s)).2).2 ≤ s.length := by
      unfold frN
      generalize (whN s (sg0 s)).2 = a at *
      by_cases q : sat s a 46 ∧ ¬ dgT s (a + 1) = []
      · rw [if_pos q]
        have := hs _ _ q.1
        have := hn _ q.2
        have := hd (a + 1)
        dsimp only
        omega
      · rw [if_neg q]
        exact ⟨Nat.le_refl _, w1.2⟩
    have w3 : (frN s (whN s (sg0 s)).2).2 ≤ (exN pw s (frN s (whN s (sg0 s)).2).2).2 ∧ (exN pw s (frN s (whN s (sg0 s)).2).2).2 ≤ s.length := by
      unfold exN
      generalize (frN s (whN s (sg0 s)).2).2 = a at *
      by_cases q : (sat s a 101 ∨ sat s a 69) ∧ ¬ dgT s (sgN s (a + 1)) = []
      · rw [if_pos q]
        have := hn _ q.2
        have := hd (sgN s (a + 1))
        have h5 : a + 1 ≤ sgN s (a + 1) := by
          unfold sgN
          split <;> omega
        dsimp only
        omega
      · rw [if_neg q]
        exact ⟨Nat.le_refl _, w2.2⟩
    generalize hx : exN pw s (frN s (whN s (sg0 s)).2).2 = x at *
    by_cases hr : (normF (decide (sat s 0 45)) ((whN s (sg0 s)).1 ++ (frN s (whN s (sg0 s)).2).1) (x.1 - (frN s (whN s (sg0 s)).2).1.length)).2 = 0
    · rw [if_pos hr]
      dsimp only
      omega
    · rw [if_neg hr] at h
      exact absurd h hr
theorem jnum_ok {s : List UInt8} {i n : Nat} {x : J} (hi : i ≤ s.length) (h : jnum s i = .inl (x, n)) : i < n ∧ n ≤ s.length := by
  unfold jnum at h
  split at h
  · rename_i hz
    have := num_next powP _ hz
    rw [List.length_drop] at this
    cases h
    omega
  · cases h
theorem jword_ok {s w : List UInt8} {i n : Nat} {x y : J} (hw : 0 < w.length) (hi : i ≤ s.length) (h : jword s i w x = .inl (y, n)) : i < n ∧ n ≤ s.length := by
  unfold jword at h
  split at h
  · rename_i hz
    have : w.length ≤ (s.drop i).length := by
      unfold Lib.hasPrefix at hz
      exact (List.isPrefixOf_iff_prefix.1 hz).length_le
    rw [List.length_drop] at this
    cases h
    omega
  · cases h
theorem jnum_letter {s : List UInt8} {j : Nat} (h : at' s j = 110 ∨ at' s j = 116 ∨ at' s j = 102) : jnum s j = .inr (j, 3) := by
  have e0 : at' (s.drop j) 0 = at' s j := by
    show (((s.drop j).getD 0 0).toNat : Int) = ((s.getD j 0).toNat : Int)
    simp [List.getD_eq_getElem?_getD]
  have hsg : sg0 (s.drop j) = 0 := by
    unfold sg0
    refine if_neg fun q => ?_
    have : at' (s.drop j) 0 = 45 := q.2
    omega
  have hw : (whN (s.drop j) 0).1 = [] := by
    unfold whN
    rw [if_neg (fun q => by
      have : at' (s.drop j) 0 = 48 := q.2
      omega)]
    refine dgT_stop (.inr fun q => ?_)
    have : 48 ≤ at' (s.drop j) 0 ∧ at' (s.drop j) 0 ≤ 57 := q
    omega
  have hp : parseG powP (s.drop j) = ((false, [], 0), 0, 3) := by
    unfold parseG
    rw [hsg, if_pos hw]
  unfold jnum
  rw [hp]
  rfl

theorem jkey_ok {s k : List UInt8} {ks : List (List UInt8)} {i n : Nat} (hi : i ≤ s.length) (h : jkey s i ks = .inl (k, n)) : i < n ∧ n ≤ s.length := by
  unfold jkey at h
  cases h1 : jpeek s i with
  | inr e => rw [h1] at h; cases h
  | inl j =>
    rw [h1] at h
    have q1 := jpeek_ok hi h1
    dsimp only at h
    split at h
    · cases h
    · cases h2 : jtext s j with
      | inr e => rw [h2] at h; cases h
      | inl r =>
        obtain ⟨k2, n2⟩ := r
        rw [h2] at h
        have q2 := jtext_ok h2
        dsimp only at h
        split at h
        · cases h
        · cases h3 : jpeek s n2 with
          | inr e => rw [h3] at h; cases h
          | inl m =>
            rw [h3] at h
            have q3 := jpeek_ok q2.2 h3
            dsimp only at h
            split at h
            · cases h
            · cases h
              omega
theorem jkeys_ok {s : List UInt8} {mp : Bool} {ks ks' : List (List UInt8)} {i n : Nat} (hi : i ≤ s.length) (h : jkeys s mp i ks = .inl (ks', n)) : i ≤ n ∧ n ≤ s.length := by
  unfold jkeys at h
  cases mp with
  | false =>
    cases h
    exact ⟨Nat.le_refl _, hi⟩
  | true =>
    rw [if_pos rfl] at h
    cases h1 : jkey s i ks with
    | inr e => rw [h1] at h; cases h
    | inl r =>
      obtain ⟨k, m⟩ := r
      rw [h1] at h
      have := jkey_ok hi h1
      cases h
      omega

def ValOk (s : List UInt8) (val : Nat → JR) : Prop := ∀ i x n, i ≤ s.length → val i = .inl (x, n) → i < n ∧ n ≤ s.length
theorem jgo_eq {s : List UInt8} {val : Nat → JR} (hv : ValOk s val) {mp : Bool} {i : Nat} (hi : i ≤ s.length) (l : List J) (ks : List (List UInt8)) : jgo s val mp i l ks =
    match jkeys s mp i ks with
    | .inr e => .inr e
    | .inl (ks', i1) =>
      match val i1 with
      | .inr e => .inr e
      | .inl (x, i2) =>
        match jpeek s i2 with
        | .inr e => .inr e
        | .inl i3 => if at' s i3 = endM mp then .inl (manyV mp (l ++ [x]) ks', i3 + 1)
          else if at' s i3 = 44 then jgo s val mp (i3 + 1) (l ++ [x]) ks' else .inr (i3, 3) := by
  conv => lhs; rw [jgo]
  cases h1 : jkeys s mp i ks with
  | inr e => rfl
  | inl r =>
    obtain ⟨ks', i1⟩ := r
    have q1 := jkeys_ok hi h1
    dsimp only
    cases h2 : val i1 with
    | inr e => rfl
    | inl r =>
      obtain ⟨x, i2⟩ := r
      have q2 := hv _ _ _ q1.2 h2
      dsimp only
      cases h3 : jpeek s i2 with
      | inr e => rfl
      | inl i3 =>
        have q3 := jpeek_ok q2.2 h3
        dsimp only
        rw [if_pos (show i ≤ i3 ∧ i3 < s.length by omega)]
theorem jgo_ok {s : List UInt8} {val : Nat → JR} (hv : ValOk s val) {mp : Bool} : ∀ (m i : Nat) (l : List J) (ks : List (List UInt8)) (x : J) (n : Nat), s.length - i ≤ m → i ≤ s.length → jgo s val mp i l ks = .inl (x, n) → i < n ∧ n ≤ s.length := by
  intro m
  induction m with
  | zero =>
    intro i l ks x n hm hi h
    rw [jgo_eq hv hi] at h
    cases h1 : jkeys s mp i ks with
    | inr e => rw [h1] at h; cases h
    | inl r =>
      obtain ⟨ks', i1⟩ := r
      rw [h1] at h
      have q1 := jkeys_ok hi h1
      dsimp only at h
      cases h2 : val i1 with
      | inr e => rw [h2] at h; cases h
      | inl r =>
        obtain ⟨y, i2⟩ := r
        have q2 := hv _ _ _ q1.2 h2
        omega
  | succ m ih =>
    intro i l ks x n hm hi h
    rw [jgo_eq hv hi] at h
    cases h1 : jkeys s mp i ks with
    | inr e => rw [h1] at h; cases h
    | inl r =>
      obtain ⟨ks', i1⟩ := r
      rw [h1] at h
      have q1 := jkeys_ok hi h1
      dsimp only at h
      cases h2 : val i1 with
      | inr e => rw [h2] at h; cases h
      | inl r =>
        obtain ⟨y, i2⟩ := r
        rw [h2] at h
        have q2 := hv _ _ _ q1.2 h2
        dsimp only at h
        cases h3 : jpeek s i2 with
        | inr e => rw [h3] at h; cases h
        | inl i3 =>
          rw [h3] at h
          have q3 := jpeek_ok q2.2 h3
          dsimp only at h
          split at h
          · cases h
            omega
          · split at h
            · have := ih _ _ _ _ _ (by omega) (by omega) h
              omega
            · cases h
theorem jmany_ok {s : List UInt8} {val : Nat → JR} (hv : ValOk s val) {mp : Bool} {i n : Nat} {x : J} (hi : i < s.length) (h : jmany s val mp i = .inl (x, n)) : i < n ∧ n ≤ s.length := by
  unfold jmany at h
  cases h1 : jpeek s (i + 1) with
  | inr e => rw [h1] at h; cases h
  | inl j =>
    rw [h1] at h
    have q := jpeek_ok hi h1
    dsimp only at h
    split at h
    · cases h
      omega
    · have := jgo_ok hv _ _ _ _ _ _ (Nat.le_refl _) (by omega) h
      omega
theorem jval_ok (s : List UInt8) : ∀ d, ValOk s (jval s d) := by
  intro d
  induction d with
  | zero =>
    intro i x n hi h
    unfold jval at h
    split at h <;> cases h
  | succ d ih =>
    intro i x n hi h
    unfold jval at h
    cases h1 : jpeek s i with
    | inr e => rw [h1] at h; cases h
    | inl j =>
      rw [h1] at h
      have q := jpeek_ok hi h1
      dsimp only at h
      have key : j < n ∧ n ≤ s.length := by
        split at h
        · exact jword_ok (by decide) (by omega) h
        · split at h
          · exact jword_ok (by decide) (by omega) h
          · split at h
            · exact jword_ok (by decide) (by omega) h
            · split at h
              · cases h2 : jtext s j with
                | inr e => rw [h2] at h; cases h
                | inl r =>
                  obtain ⟨t, m⟩ := r
                  rw [h2] at h
                  have := jtext_ok h2
                  cases h
                  exact this
              · split at h
                · exact jmany_ok ih q.2.1 h
                · split at h
                  · exact jmany_ok ih q.2.1 h
                  · exact jnum_ok (by omega) h
      omega

end Go.Proofs.YtbegohehjkjnmaaDoor.Flow

namespace Go.Proofs.YtbegohehjkjnmaaDoor.Flow

def pchain (pv : Value) : List PanicEntry := [{ v := pv, recovered := false }]

def CtrP (P : Program) (f : FuncId) (args : List D) (ow : Ow) (pv : Value) (ow' : Ow) : Prop :=
  ∀ (X : Ctx) (vs : Array Value), X.ids = ow.map (·.1) → Hist X X.w0 X.S0 → Inv X X.w0 X.S0 X.r0 (fO ow) → vs.size = args.length → (∀ j, j < args.length → Rel X.S0 X.w0 X.r0 (args.getD j .any) (vs.getD j undef)) →
    Calls P f vs X.w0 fun e w' => ∃ S' r', e = .panicked (pchain pv) ∧ Hist X w' S' ∧ Inv X w' S' r' (fO ow') ∧ RhoLe X.r0 r'

def CtrE (P : Program) (f : FuncId) (args : List D) (ow : Ow) (out : Sum D Value) (ow' : Ow) : Prop :=
  match out with
  | .inl d => CtrO P f args ow d ow'
  | .inr pv => CtrP P f args ow pv ow'

def PanAt (P : Program) (X : Ctx) (n : Nat) (o : Oper) (F : Nat → D) (O : Nat → Option Own) (ch : List PanicEntry) (wr : List (Nat × Own)) : Prop :=
  ∀ (a : Act) (w : World) (K : Act → World → Prop) (Q : Exit → Act → World → Prop), Rep X n F O a w → (∀ w', Rep X n F (updO O wr) a w' → Q (.panic ch) a w') → OW P o a w K Q

def splitOp : Nat → List Oper → (List Oper → Oper → Prop) → Prop
  | 0, o :: _, K => K [] o
  | k + 1, a :: r, K => splitOp k r fun pre o => K (a :: pre) o
  | _, [], _ => False

theorem splitOp_spec : ∀ {k : Nat} {ops : List Oper} {K : List Oper → Oper → Prop}, splitOp k ops K → ∃ pre o post, ops = pre ++ o :: post ∧ K pre o
  | 0, o :: r, _, h => ⟨[], o, r, rfl, h⟩
  | k + 1, a :: r, _, h => by
    obtain ⟨pre, o, post, h1, h2⟩ := splitOp_spec (k := k) (ops := r) h
    exact ⟨a :: pre, o, post, by rw [h1]; rfl, h2⟩
  | 0, [], _, h => h.elim
  | k + 1, [], _, h => h.elim

section
variable {P : Program} {X : Ctx} {n : Nat} {fr : Fr} {ow : Ow} {d : D} {Q : Exit → Fr → Ow → Prop}

theorem wpOps_split {ops : Array Oper} {Q : Exit → Act → World → Prop} (m : Nat) : ∀ {l : List Oper} {k : Nat} {F : Nat → D} {O : Nat → Option Own} {es : List Eff} {F' : Nat → D} {O' : Nat → Option Own},
    Ch P X n ops.toList l F O es F' O' → (∀ j, j < l.length → l[j]? = ops[k + j]?) → (∀ a w, Rep X n F' O' a w → ∀ rd, wpOpsIn (fR rd) 0 P ops Q (List.range' (k + l.length) m) a w) → ∀ a w, Rep X n F O a w → ∀ rd, wpOpsIn (fR rd) 0 P ops Q (List.range' k (l.length + m)) a w
  | _, k, _, _, _, _, _, .nil F O, _, hQ, a, w, hr => fun rd => by simpa using hQ a w hr rd
  | _, k, _, _, _, _, _, .cons o rest F O e es F' O' h t, hl, hQ, a, w, hr => fun rd => by
    have h0 : ops[k]? = some o := by simpa using (hl 0 (by simp)).symm
    rw [List.length_cons, Nat.add_right_comm, List.range'_succ, wpOpsIn_cons]
    refine wpOp_of_does h0 (h F O (fun _ _ => rfl) (fun _ _ => rfl)) hr (fun a' w' h' => ?_) rd
    refine wpOps_split m t (fun j hj => by have := hl (j + 1) (by simpa using hj); simpa [Nat.add_assoc, Nat.add_comm 1 j] using this) (fun a w hr rd => ?_) a' w' h' rd
    have := hQ a w hr rd
    rwa [List.length_cons, show k + (rest.length + 1) = k + 1 + rest.length by omega] at this

def PanGoal (P : Program) (X : Ctx) (n : Nat) (Q : Exit → Fr → Ow → Prop) (o : Oper) (fr : Fr) (ow : Ow) : Prop :=
  o.guard = none ∧ ∃ ch wr ow2, PanAt P X n o (fF fr) (fO ow) ch wr ∧ fO ow2 = updO (fO ow) wr ∧ Q (.panic ch) fr ow2

theorem T.regionP {id : Nat} {ops : List Oper} (k : Nat) (h : splitOp k ops fun pre o => CT P X n ops pre fr ow [] fun fr1 ow1 _ => PanGoal P X n Q o fr1 ow1) : T P X n (.region id ⟨ops⟩ false) fr ow Q := fun a w hr rd => by
  obtain ⟨pre, o, post, hs, es, fr1, ow1, hc, hg, ch, wr, ow2, hp, hO, hq⟩ := splitOp_spec h
  refine wpIn_region ?_
  have hlen : (⟨ops⟩ : Array Oper).size = pre.length + (post.length + 1) := by
    show ops.length = _
    rw [hs]
    simp
  rw [List.range_eq_range', hlen]
  refine wpOps_split (post.length + 1) (l := pre) (k := 0) hc (fun j hj => ?_) (fun a1 w1 hr1 rd => ?_) a w hr rd
  · show pre[j]? = ops.toArray[0 + j]?
    rw [Nat.zero_add, List.getElem?_toArray, hs, List.getElem?_append_left hj]
  · rw [Nat.zero_add, List.range'_succ, wpOpsIn_cons]
    have h0 : (⟨ops⟩ : Array Oper)[pre.length]? = some o := by
      show ops.toArray[pre.length]? = _
      rw [List.getElem?_toArray, hs]
      simp
    unfold wpOpIn
    simp only [h0, Region.wanted, hg, if_true]
    refine (hp a1 w1 _ _ hr1 fun w' hr2 => ⟨fr1, ow2, hq, ?_⟩).2 rd
    rw [hO]
    exact hr2

theorem lendP_step {o : Oper} {f : FuncId} {args : List D} {lo lo' : Ow} {ids : List Nat} {pv : Value} (hP : ∀ vs w, (callFunc f vs).run P w = .ok (.enter f vs) w) (hc : callOf fr o.op = some (f, args)) (hk : hasAll (fun k => look k ow) lo)
    (hi1 : lo.map (·.1) = ids) (hi2 : lo'.map (·.1) = ids) (hnd : ids.Nodup)
    (hok : (args.map (lendA ids)).all (D.okIn ids) = true) (hf1 : lo.all (fun x => x.2.okIn ids) = true) (hf2 : lo'.all (fun x => x.2.okIn ids) = true)
    (hC : CtrP P f (args.map (lendA ids)) lo pv lo') :
    ∀ F' O', (∀ x ∈ o.op.operands.toList, evF F' x = evF (fF fr) x) → (∀ j ∈ ids, O' j = fO ow j) → PanAt P X n o F' O' (pchain pv) lo' := by
  intro F' O' he hO a w K' Q' ⟨S, r, hH, hI, hF, hdf, hn, hρ⟩ hK
  obtain ⟨vs, hrun, hsz, hrel⟩ := call_enter hP hc he (fun x => evF_rel hH.glob hF x)
  have hOk : ∀ k o, look k lo = some o → O' k = some o := fun k o h => by
    have hm : k ∈ ids := by rw [← hi1]; exact List.mem_map.2 ⟨(k, o), mem_of_look h, rfl⟩
    exact (hO k hm).trans (hasAll_get hk k o h)
  have hmem : ∀ k, k ∈ ids → ∃ o, look k lo = some o := fun k h => look_some (by rw [hi1]; exact h)
  have hmem' : ∀ k, k ∈ ids → ∃ o, look k lo' = some o := fun k h => look_some (by rw [hi2]; exact h)
  have hin : ∀ k o, look k lo = some o → k ∈ ids ∧ o.okIn ids = true := fun k o h => by
    have h1 := mem_of_look h
    rw [List.all_eq_true] at hf1
    exact ⟨by rw [← hi1]; exact List.mem_map.2 ⟨(k, o), h1, rfl⟩, hf1 _ h1⟩
  have hin' : ∀ k o, look k lo' = some o → k ∈ ids ∧ o.okIn ids = true := fun k o h => by
    have h1 := mem_of_look h
    rw [List.all_eq_true] at hf2
    exact ⟨by rw [← hi2]; exact List.mem_map.2 ⟨(k, o), h1, rfl⟩, hf2 _ h1⟩
  have hblt : ∀ k l b, r k = some l → l.block = some b → b < w.heap.size := fun k l b hl hb => by
    cases ho : O' k with
    | none => rw [hI.dom k ho] at hl; cases hl
    | some o => exact (hI.obj k o ho).blockLt hl hb
  let X' : Ctx := { w0 := w, S0 := S, L := fun b => ∃ k ∈ ids, ∃ l, r k = some l ∧ l.block = some b, r0 := keepR r ids, ids := ids }
  have hH' : Hist X' w S := ⟨rfl, rfl, rfl, Nat.le_refl _, fun _ _ _ => rfl, fun _ _ h => h, fun _ _ _ => rfl, fun _ _ h => .inl h, hH.valid, hH.glob⟩
  have hI' : Inv X' w S X'.r0 (fO lo) := by
    refine ⟨fun k o hk' => ?_, fun k hk' => ?_, fun i j l l' b' hij hl hl' hb' => ?_, fun k l b' hl hb' => ?_⟩
    · obtain ⟨h1, h2⟩ := hin k o hk'
      exact (hI.obj k o (hOk k o hk')).okIn h2 (RhoLe.refl _) (if_pos h1)
    · refine if_neg fun hm => ?_
      obtain ⟨o, ho⟩ := hmem k hm
      rw [show fO lo k = look k lo from rfl, ho] at hk'
      cases hk'
    · have hl : keepR r ids i = some l := hl
      have hl' : keepR r ids j = some l' := hl'
      simp only [keepR] at hl hl'
      split at hl <;> first | (cases hl; done) | skip
      split at hl' <;> first | (cases hl'; done) | skip
      exact hI.apart i j l l' b' hij hl hl' hb'
    · have hl : keepR r ids k = some l := hl
      simp only [keepR] at hl
      split at hl <;> first | (cases hl; done) | skip
      rename_i hm
      exact .inr ⟨k, hm, l, hl, hb'⟩
  have hrel' : ∀ j, j < (args.map (lendA ids)).length → Rel S w X'.r0 ((args.map (lendA ids)).getD j .any) (vs.getD j undef) := by
    intro j hj
    have hj' : j < args.length := by simpa using hj
    have e : (args.map (lendA ids)).getD j .any = lendA ids (args.getD j .any) := by simp [List.getD_eq_getElem?_getD, hj']
    have hokj : (lendA ids (args.getD j .any)).okIn ids = true := by
      rw [← e]
      rw [List.all_eq_true] at hok
      refine hok _ ?_
      simp only [List.getD_eq_getElem?_getD, List.getElem?_eq_getElem hj, Option.getD_some]
      exact List.getElem_mem hj
    rw [e]
    have hr := hrel j hj'
    generalize args.getD j .any = dj at hr hokj
    generalize vs.getD j undef = vj at hr
    refine Rel.okIn (r := r) ?_ hokj
    cases dj with
    | gs k z m g =>
      simp only [lendA]
      split
      · exact hr
      · exact hr.shut
    | _ => exact hr
  refine OW.enter hrun ((hC X' vs hi1.symm hH' hI' (by simpa using hsz) hrel').mono ?_)
  rintro e w' ⟨S', r', rfl, g2, g3, g4⟩
  let r2 : Rho := fun k => if k ∈ ids then r' k else r k
  have hr2 : RhoLe r r2 := fun k l hl => by
    by_cases hm : k ∈ ids
    · obtain ⟨l', h1, h2⟩ := g4 k l (by show keepR r ids k = some l; rw [keepR, if_pos hm]; exact hl)
      exact ⟨l', by show (if k ∈ ids then r' k else r k) = some l'; rw [if_pos hm]; exact h1, h2⟩
    · exact ⟨l, by show (if k ∈ ids then r' k else r k) = some l; rw [if_neg hm]; exact hl, LocLe.refl l⟩
  have hr3 : RhoLe (keepR r' ids) r2 := fun k l hl => by
    simp only [keepR] at hl
    split at hl <;> first | (cases hl; done) | skip
    rename_i hm
    exact ⟨l, by show (if k ∈ ids then r' k else r k) = some l; rw [if_pos hm]; exact hl, LocLe.refl l⟩
  have hXL : ∀ b, X'.L b → X.w0.heap.size ≤ b ∨ X.L b := fun b ⟨k, _, l, hl, hb⟩ => hI.low k l b hl hb
  have hother : ∀ k l b, k ∉ ids → r k = some l → l.block = some b → ¬ X'.L b := fun k l b hm hl hb ⟨k', hm', l', hl', hb'⟩ =>
    hI.apart k k' l l' b (fun e => hm (e ▸ hm')) hl hl' hb hb'
  refine hK w' ⟨S', r2, ?_, ?_, fun t => (hF t).mono g2.sub g2.cell r2 hr2, hdf, hn, hρ.trans hr2⟩
  · refine ⟨g2.os.trans hH.os, g2.tape.trans hH.tape, g2.output.trans hH.output, Nat.le_trans hH.size g2.size, fun k hk' hl => ?_, fun b o hb => g2.sub b o (hH.sub b o hb), fun b o hb => (g2.cell b o (hH.sub b o hb)).trans (hH.cell b o hb), fun b o hb => ?_, g2.valid, g2.glob⟩
    · refine (g2.block k (Nat.lt_of_lt_of_le hk' hH.size) fun hx => ?_).trans (hH.block k hk' hl)
      rcases hXL k hx with h | h
      · omega
      · exact hl h
    · rcases g2.new b o hb with h | h | h
      · exact hH.new b o h
      · exact .inr (.inl (Nat.le_trans hH.size h))
      · rcases hXL b h with h | h
        · exact .inr (.inl h)
        · exact .inr (.inr h)
  · have hnd' : (lo'.map (·.1)).Nodup := by rw [hi2]; exact hnd
    have hup : ∀ k, k ∉ ids → updO O' lo' k = O' k := fun k hm => by
      rw [updO_look hnd', look_none (by rw [hi2]; exact hm)]
    refine ⟨fun k o hk' => ?_, fun k hk' => ?_, fun i j l l' b hij hl hl' hb => ?_, fun k l b hl hb => ?_⟩
    · by_cases hm : k ∈ ids
      · obtain ⟨o', ho'⟩ := hmem' k hm
        rw [updO_look hnd', ho'] at hk'
        obtain rfl : o' = o := Option.some.inj hk'
        exact (g3.obj k o' ho').okIn (hin' k o' ho').2 hr3 (if_pos hm)
      · rw [hup k hm] at hk'
        refine (hI.obj k o hk').keepL g2.sub g2.cell hr2 (if_neg hm) (fun l b hl hb => g2.block b (hblt k l b hl hb) (hother k l b hm hl hb)) (fun b o hs => ?_)
        rcases g2.new b o hs with h | h | h
        · exact .inl h
        · refine .inr fun l hl hb => ?_
          have := hblt k l b hl hb
          have h : w.heap.size ≤ b := h
          omega
        · exact .inr fun l hl hb => hother k l b hm hl hb h
    · by_cases hm : k ∈ ids
      · obtain ⟨o', ho'⟩ := hmem' k hm
        rw [updO_look hnd', ho'] at hk'
        cases hk'
      · rw [hup k hm] at hk'
        exact (if_neg hm).trans (hI.dom k hk')
    · have hl : (if i ∈ ids then r' i else r i) = some l := hl
      have hl' : (if j ∈ ids then r' j else r j) = some l' := hl'
      by_cases h1 : i ∈ ids
      · rw [if_pos h1] at hl
        by_cases h2 : j ∈ ids
        · rw [if_pos h2] at hl'
          exact g3.apart i j l l' b hij hl hl' hb
        · rw [if_neg h2] at hl'
          intro hb'
          rcases g3.low i l b hl hb with h | h
          · have := hblt j l' b hl' hb'
            have h : w.heap.size ≤ b := h
            omega
          · exact hother j l' b h2 hl' hb' h
      · rw [if_neg h1] at hl
        by_cases h2 : j ∈ ids
        · rw [if_pos h2] at hl'
          intro hb'
          rcases g3.low j l' b hl' hb' with h | h
          · have := hblt i l b hl hb
            have h : w.heap.size ≤ b := h
            omega
          · exact hother i l b h1 hl hb h
        · rw [if_neg h2] at hl'
          exact hI.apart i j l l' b hij hl hl' hb
    · have hl : (if k ∈ ids then r' k else r k) = some l := hl
      by_cases h1 : k ∈ ids
      · rw [if_pos h1] at hl
        rcases g3.low k l b hl hb with h | h
        · exact .inl (Nat.le_trans hH.size h)
        · exact hXL b h
      · rw [if_neg h1] at hl
        exact hI.low k l b hl hb

theorem CtrP.of0 {f : FuncId} {args : List D} {ow ow' : Ow} {pv : Value}
    (h : ∀ (X : Ctx) (vs : Array Value), X.dfs = [] → X.ids = ow.map (·.1) → Hist X X.w0 X.S0 → Inv X X.w0 X.S0 X.r0 (fO ow) → vs.size = args.length → (∀ j, j < args.length → Rel X.S0 X.w0 X.r0 (args.getD j .any) (vs.getD j undef)) →
      Calls P f vs X.w0 fun e w' => ∃ S' r', e = .panicked (pchain pv) ∧ Hist X w' S' ∧ Inv X w' S' r' (fO ow') ∧ RhoLe X.r0 r') : CtrP P f args ow pv ow' := fun X vs hids hH hI hn hr =>
  (h { X with dfs := [] } vs rfl hids (hH.re []) (hI.re []) hn hr).mono fun _ _ ⟨S', r', h1, h3, h4, h5⟩ => ⟨S', r', h1, h3.un, h4.un, h5⟩

theorem CtrP.of_T {f : FuncId} {fn : Func} {c : Code} {N : Nat} {args : List D} {pv : Value} {lo lo' : Ow} (hf : P.funcs[f]? = some fn) (hb : fn.body = some c) (hN : fn.ntmps = N) (hlen : args.length ≤ N) (hok : lo'.all (fun x => x.2.okIn (lo'.map (·.1))) = true) (hids : lo'.map (·.1) = lo.map (·.1))
    (h : ∀ X : Ctx, Lent X → X.ids = lo.map (·.1) → T P X N c (slots 0 args) lo (fun e _fr2 ow2 => e = .panic (pchain pv) ∧ leOw ow2 lo')) : CtrP P f args lo pv lo' := by
  refine CtrP.of0 fun X vs hdf0 hid hH hI hsz hrel => ?_
  have hL : Lent X := fun k hk => by
    rw [hid]
    cases hmem : look k lo with
    | none => exact absurd (hI.dom k hmem) hk
    | some o =>
      by_cases hm : k ∈ lo.map (·.1)
      · exact hm
      · rw [look_none hm] at hmem; cases hmem
  refine calls_of_wp hf hb ?_
  have hrep : Rep X N (fF (slots 0 args)) (fO lo) { tmps := vs ++ Array.replicate (fn.ntmps - vs.size) undef, defers := [] } X.w0 := by
    refine ⟨X.S0, X.r0, hH, hI, fun t => ?_, hdf0.symm, by simp; omega, RhoLe.refl _⟩
    show Rel _ _ _ (getD' t (slots 0 args)) _
    rw [slots_get]
    simp only [Nat.zero_le, if_true, Nat.sub_zero]
    by_cases ht : t < args.length
    · have := hrel t ht
      rw [Array.getD_eq_getD_getElem?, Array.getElem?_append_left (by omega), ← Array.getD_eq_getD_getElem?]
      exact this
    · rw [List.getD_eq_getElem?_getD, List.getElem?_eq_none (by omega)]
      exact .any ..
  refine wp_mono (h X hL hid _ _ hrep).wide fun e a w ⟨fr2, ow2, ⟨he, hlo⟩, hrep2⟩ => ?_
  obtain ⟨S, r, hH2, hI2, hF2, hd2, _, hρ2⟩ := hrep2
  subst he
  refine ⟨hd2.trans hdf0, S, keepR r (lo'.map (·.1)), rfl, hH2, hI2.keep hlo hok, fun k l hk => ?_⟩
  obtain ⟨l', g1, g2⟩ := hρ2 k l hk
  have : k ∈ lo'.map (·.1) := by
    rw [hids, ← hid]
    exact hL k (by rw [hk]; simp)
  exact ⟨l', by simp only [keepR]; rw [if_pos this]; exact g1, g2⟩
end

section
variable {X : Ctx} {n : Nat} {all rest : List Oper} {fr : Fr} {ow : Ow} {Q : Exit → Fr → Ow → Prop}
variable {t : Nat} {op : Op} {ty : TypeId} {pos : String} {af : Array Edge} {d : D} {f : FuncId} {args : List D} {pv : Value} {dst : Option Tmp}

def Pnc (pv : Value) (Q : Exit → Fr → Ow → Prop) (fr : Fr) (ow : Ow) : Prop := Q (.panic (pchain pv)) fr ow
theorem p_then {K : Fr → Ow → Prop} (h : Pnc pv Q fr ow) : Pnc pv (thenQ K Q) fr ow := h
theorem p_block {id : Nat} (h : Pnc pv Q fr ow) : Pnc pv (blockQ id Q) fr ow := h

theorem t_pan (k : Nat) {id : Nat} {ops : List Oper} (h : splitOp k ops fun pre o => CT Tryd.prog X n ops pre fr ow [] fun fr1 ow1 _ => PanGoal Tryd.prog X n Q o fr1 ow1) : T Tryd.prog X n (.region id ⟨ops⟩ false) fr ow Q := T.regionP k h

theorem p_lend1 {o1 o1' : Own} (k : Nat) (hc : callOf fr op = some (f, args)) (hP : ∀ vs w, (callFunc f vs).run Tryd.prog w = .ok (.enter f vs) w) (hk : look k ow = some o1)
    (hok : (args.map (lendA [k])).all (D.okIn [k]) = true) (hf1 : o1.okIn [k] = true) (hf2 : o1'.okIn [k] = true)
    (hC : CtrP Tryd.prog f (args.map (lendA [k])) [(k, o1)] pv [(k, o1')]) (h : Pnc pv Q fr ((k, o1') :: ow)) : PanGoal Tryd.prog X n Q ⟨dst, op, ty, pos, af, none⟩ fr ow :=
  ⟨rfl, pchain pv, [(k, o1')], (k, o1') :: ow, lendP_step (o := ⟨dst, op, ty, pos, af, none⟩) (ow := ow) (lo := [(k, o1)]) (lo' := [(k, o1')]) (ids := [k]) hP hc ⟨hk, trivial⟩ rfl rfl (by simp) hok (by simp [hf1]) (by simp [hf2]) hC _ _ (fun x _ => evF_fF fr x) (fun _ _ => rfl), fO_cons .., h⟩

theorem p_call (hc : callOf fr op = some (f, args)) (hP : ∀ vs w, (callFunc f vs).run Tryd.prog w = .ok (.enter f vs) w)
    (hok : (args.map (lendA [])).all (D.okIn []) = true) (hC : CtrP Tryd.prog f (args.map (lendA [])) [] pv []) (h : Pnc pv Q fr ow) : PanGoal Tryd.prog X n Q ⟨dst, op, ty, pos, af, none⟩ fr ow :=
  ⟨rfl, pchain pv, [], ow, lendP_step (o := ⟨dst, op, ty, pos, af, none⟩) (ow := ow) (lo := []) (lo' := []) (ids := []) hP hc trivial rfl rfl (by simp) hok rfl rfl hC _ _ (fun x _ => evF_fF fr x) (fun _ h => by cases h), rfl, h⟩

def EndsE (rs : List ResultVar) (out : Sum D Value) (lo : Ow) (e : Exit) (fr : Fr) (ow : Ow) : Prop :=
  match out with
  | .inl d => EndsM rs d lo e fr ow
  | .inr pv => e = .panic (pchain pv) ∧ leOw ow lo

theorem r_methE {fn : Func} {c : Code} {N : Nat} {rs : List ResultVar} {lo lo' : Ow} {ids : List Nat} {out : Sum D Value} (hf : Tryd.prog.funcs[f]? = some fn) (hb : fn.body = some c) (hN : fn.ntmps = N) (hrs : fn.results = ⟨rs⟩) (hlen : Nat.ble args.length N = true)
    (hi1 : lo.map (·.1) = ids) (hi2 : lo'.map (·.1) = ids) (hd : ∀ d, out = .inl d → d.okIn ids = true) (hcs : lo'.all (fun x => x.2.okIn ids) = true)
    (h : ∀ X : Ctx, Lent X → X.ids = ids → T Tryd.prog X N c (slots 0 args) lo (EndsE rs out lo')) : CtrE Tryd.prog f args lo out lo' := by
  cases out with
  | inl d => exact r_methM hf hb hN hrs hlen hi1 hi2 (hd d rfl) hcs h
  | inr pv => exact CtrP.of_T hf hb hN (by simpa using hlen) (by rw [hi2]; exact hcs) (hi2.trans hi1.symm) fun X hL hX => h X hL (hX.trans hi1)
end

attribute [irreducible] Pnc
end Go.Proofs.YtbegohehjkjnmaaDoor.Flow
