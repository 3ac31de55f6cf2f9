/- The texts J13, N1, G25, G23, J7, G24, one behind the other. -/
import Derived.Test.YtcajofhafpkbdaaGreatDoorCQ13
import Derived.Test.YtcajofhafpkbdaaGreatDoorCQ15
import Derived.Test.YtcajofhafpkbdaaGreatDoorCQ18
import Derived.Test.YtcajofhafpkbdaaGreatDoorCQ19
import Derived.Test.YtcajofhafpkbdaaGreatDoorCQ21
import Derived.Test.YtcajofhafpkbdaaGreatDoorCQ25
namespace Go.Proofs.YtcajofhafpkbdaaGreatDoor.Flow
open Go
def ValW (s : List UInt8) (val : Nat → JR) : Prop := ∀ i x n, i ≤ s.length → val i = .inl (x, n) → jw x + i ≤ n
theorem zqZ {s : List UInt8} {mp : Bool} {ks ks' : List (List UInt8)} {i n : Nat} (hi : i ≤ s.length) (h : jkeys s mp i ks = .inl (ks', n)) : ks'.length + i ≤ ks.length + n := by
  unfold jkeys at h
  split at h
  · cases h1 : jkey s i ks with
    | inr e => rw [h1] at h; cases h
    | inl r =>
      obtain ⟨k, m⟩ := r
      rw [h1] at h
      have := zjB hi h1
      cases h
      rw [List.length_append, List.length_singleton]
      omega
  · cases h
    exact Nat.le_refl _
theorem jgo_w {s : List UInt8} {val : Nat → JR} (hv : ValOk s val) (hw : ValW s val) {mp : Bool} : ∀ (m i : Nat) (l : List J) (ks : List (List UInt8)) (x : J) (n : Nat), s.length - i ≤ m → i ≤ s.length → jgo s val mp i l ks = .inl (x, n) → jw x + i ≤ jwL l + ks.length + n := by
  intro m
  induction m with
  | zero =>
    intro i l ks x n hm hi h
    rw [zdJ hv hi] at h
    cases h1 : jkeys s mp i ks with
    | inr e => rw [h1] at h; cases h
    | inl r =>
      obtain ⟨ks', i1⟩ := r
      rw [h1] at h
      have q1 := zcQ hi h1
      dsimp only at h
      cases h2 : val i1 with
      | inr e => rw [h2] at h; cases h
      | inl r =>
        obtain ⟨y, i2⟩ := r
        have q2 := hv _ _ _ q1.2 h2
        omega
  | succ m ih =>
    intro i l ks x n hm hi h
    rw [zdJ hv hi] at h
    cases h1 : jkeys s mp i ks with
    | inr e => rw [h1] at h; cases h
    | inl r =>
      obtain ⟨ks', i1⟩ := r
      rw [h1] at h
      have q1 := zcQ hi h1
      have w1 := zqZ hi h1
      dsimp only at h
      cases h2 : val i1 with
      | inr e => rw [h2] at h; cases h
      | inl r =>
        obtain ⟨y, i2⟩ := r
        rw [h2] at h
        have q2 := hv _ _ _ q1.2 h2
        have w2 := hw _ _ _ q1.2 h2
        have wa := znC l y
        dsimp only at h
        cases h3 : jpeek s i2 with
        | inr e => rw [h3] at h; cases h
        | inl i3 =>
          rw [h3] at h
          have q3 := zaW q2.2 h3
          dsimp only at h
          split at h
          · cases h
            unfold manyV
            rw [jw]
            omega
          · split at h
            · have := ih _ _ _ _ _ (by omega) (by omega) h
              omega
            · cases h
theorem znp {s : List UInt8} {val : Nat → JR} (hv : ValOk s val) (hw : ValW s val) {mp : Bool} {i n : Nat} {x : J} (hi : i < s.length) (h : jmany s val mp i = .inl (x, n)) : jw x + i ≤ n := by
  unfold jmany at h
  cases h1 : jpeek s (i + 1) with
  | inr e => rw [h1] at h; cases h
  | inl j =>
    rw [h1] at h
    have q := zaW hi h1
    dsimp only at h
    split at h
    · cases h
      show 1 + 0 + 0 + i ≤ j + 1
      omega
    · have := jgo_w hv hw _ _ _ _ _ _ (Nat.le_refl _) (by omega) h
      have e : jwL [] = 0 := rfl
      rw [e, List.length_nil] at this
      omega
theorem zso (s : List UInt8) : ∀ d, ValW s (jval s d) := by
  intro d
  induction d with
  | zero =>
    intro i x n hi h
    unfold jval at h
    split at h <;> cases h
  | succ d ih =>
    intro i x n hi h
    have hk := zca s (d + 1) i x n hi h
    have lit : ∀ (k : Int) (y g : Bool) (dd : List UInt8) (e : Int) (t : List UInt8), jw (.mk k y g dd e t [] []) = 1 := fun _ _ _ _ _ _ => rfl
    unfold jval at h
    cases h1 : jpeek s i with
    | inr e => rw [h1] at h; cases h
    | inl j =>
      rw [h1] at h
      have q := zaW hi h1
      dsimp only at h
      unfold jword at h
      split at h
      · split at h <;> cases h
        have := lit 0 false false [] 0 []
        show 1 + i ≤ _
        omega
      · split at h
        · split at h <;> cases h
          show 1 + i ≤ _
          omega
        · split at h
          · split at h <;> cases h
            show 1 + i ≤ _
            omega
          · split at h
            · cases h2 : jtext s j with
              | inr e => rw [h2] at h; cases h
              | inl r =>
                rw [h2] at h
                cases h
                show 1 + i ≤ _
                omega
            · split at h
              · have := znp (zca s d) ih q.2.1 h
                omega
              · split at h
                · have := znp (zca s d) ih q.2.1 h
                  omega
                · unfold jnum at h
                  split at h
                  · cases h
                    show 1 + i ≤ _
                    omega
                  · cases h
theorem zpR (s : List UInt8) : jw (jparse s).1 ≤ s.length + 1 := by
  have j1 : jw j0 = 1 := rfl
  unfold jparse
  split
  · dsimp only
    omega
  · cases h : jval s 64 0 with
    | inr e => dsimp only; omega
    | inl r =>
      obtain ⟨x, n⟩ := r
      have h1 := zso s 64 0 x n (Nat.zero_le _) h
      have h2 := zca s 64 0 x n (Nat.zero_le _) h
      dsimp only
      split
      · dsimp only
        omega
      · dsimp only
        omega

theorem zhv (s : List UInt8) : ∀ (n : Nat) (i : Int) (o : List UInt8), 0 ≤ i → i ≤ s.length → (unqG s n i o).2.2 = 0 → ((unqG s n i o).1.length : Int) ≤ o.length + 4 * (s.length - i)
  | 0, i, o, _, _, h => by
    unfold unqG at h
    cases h
  | n + 1, i, o, h0, h1, h => by
    by_cases hi : i < s.length
    · by_cases c34 : at' s i = 34
      · cases hv : validL o with
        | true =>
          rw [zcC hi c34 hv]
          dsimp only
          omega
        | false =>
          rw [zes hi c34 hv] at h
          cases h
      · by_cases c92 : at' s i = 92
        · rw [zet hi c92] at h ⊢
          have er := zcG s (i + 1) o (by omega) (by omega)
          by_cases hz : (escP s (i + 1) o).2.2 = 0
          · rw [if_pos hz] at h ⊢
            have := zhv s n _ _ (by omega) er.2.1 h
            omega
          · rw [if_neg hz] at h
            exact absurd h hz
        · by_cases c32 : at' s i < 32
          · rw [zeu hi c34 c92 c32] at h
            cases h
          · rw [zcY hi c34 c92 c32] at h ⊢
            have := zhv s n (i + 1) (o ++ [by8 (at' s i)]) (by omega) (by omega) h
            simp only [List.length_append, List.length_cons, List.length_nil] at this
            omega
    · rw [zef hi] at h
      cases h
theorem zoO {s : List UInt8} {i : Int} (h : (unqF s i).2.2 = 0) : (unqF s i).1.length ≤ 4 * s.length := by
  unfold unqF at h ⊢
  by_cases hb : i < 0 ∨ s.length < i
  · rw [if_pos hb] at h
    cases h
  · rw [if_neg hb] at h ⊢
    have hm := zbB s i 0 34 (by omega) (by omega)
    by_cases hz : (mustF s i 0 34).2 = 0
    · rw [if_pos hz] at h ⊢
      have := zhv s _ _ _ (by omega) (by omega) h
      simp only [List.length_nil] at this
      omega
    · rw [if_neg hz] at h
      exact absurd h hz
theorem zii {s t : List UInt8} {i n : Nat} (h : jtext s i = .inl (t, n)) : t.length ≤ 4 * s.length := by
  unfold jtext at h
  split at h
  · rename_i hz
    have := zoO hz
    cases h
    exact this
  · cases h
mutual
def okJ (B : Nat) : J → Prop
  | .mk k _ _ _ _ t l ks => (k = 5 → ks.length = l.length) ∧ t.length ≤ B ∧ (∀ q ∈ ks, q.length ≤ B) ∧ okJL B l
def okJL (B : Nat) : List J → Prop
  | [] => True
  | x :: r => okJ B x ∧ okJL B r
end

theorem zno (neg : Bool) (s : List UInt8) (e : Int) : (normF neg s e).1.2.1.length ≤ 100 := by
  unfold normF
  split
  · exact Nat.zero_le _
  · split
    · exact Nat.zero_le _
    · rename_i h
      split
      · exact Nat.zero_le _
      · show (tL (tR s)).length ≤ 100
        omega
theorem zln (pw : List UInt8 → Int) (s : List UInt8) : (parseG pw s).1.2.1.length ≤ 100 := by
  unfold parseG
  split
  · exact Nat.zero_le _
  · dsimp only
    split
    · exact zno _ _ _
    · exact Nat.zero_le _
mutual
def okK (B : Nat) : J → Prop
  | .mk k _ _ d _ t l ks => (k = 5 → ks.length = l.length) ∧ (t.length ≤ B ∧ d.length ≤ 100) ∧ (ks.Nodup ∧ ∀ q ∈ ks, q.length ≤ B) ∧ okKL B l
def okKL (B : Nat) : List J → Prop
  | [] => True
  | x :: r => okK B x ∧ okKL B r
end
theorem zkr (B : Nat) (k : Int) (y n : Bool) (d : List UInt8) (e : Int) (t : List UInt8) (l : List J) (ks : List (List UInt8)) : okK B (.mk k y n d e t l ks) ↔ (k = 5 → ks.length = l.length) ∧ (t.length ≤ B ∧ d.length ≤ 100) ∧ (ks.Nodup ∧ ∀ q ∈ ks, q.length ≤ B) ∧ okKL B l := by rw [okK]
theorem zbS {B : Nat} {x : J} (h : okK B x) : (x.kind = 5 → x.keys.length = x.list.length) ∧ (x.text.length ≤ B ∧ x.dig.length ≤ 100) ∧ (x.keys.Nodup ∧ ∀ q ∈ x.keys, q.length ≤ B) ∧ okKL B x.list := by
  cases x
  exact (zkr ..).1 h
theorem zmH {B : Nat} : ∀ {l : List J} {i : Nat}, okKL B l → i < l.length → okK B (l.getD i j0)
  | [], _, _, h => by simp at h
  | x :: r, 0, h, _ => by
    rw [okKL] at h
    exact h.1
  | x :: r, i + 1, h, hi => by
    rw [okKL] at h
    have := zmH (l := r) (i := i) h.2 (by simpa using hi)
    rwa [show (x :: r).getD (i + 1) j0 = r.getD i j0 by simp]
theorem zkm {B : Nat} {x : J} : ∀ {l : List J}, okKL B l → okK B x → okKL B (l ++ [x])
  | [], _, h => by
    rw [List.nil_append, okKL]
    exact ⟨h, by rw [okKL]; trivial⟩
  | y :: r, h, hx => by
    rw [okKL] at h
    rw [List.cons_append, okKL]
    exact ⟨h.1, zkm h.2 hx⟩
theorem zfw (B : Nat) (k : Int) (y n : Bool) (d : List UInt8) (e : Int) (t : List UInt8) (ht : t.length ≤ B) (hd : d.length ≤ 100) : okK B (.mk k y n d e t [] []) := by
  rw [zkr]
  exact ⟨fun _ => rfl, ⟨ht, hd⟩, ⟨.nil, fun q hq => (by cases hq)⟩, by rw [okKL]; trivial⟩
theorem zoU (B : Nat) : okK B j0 := zfw B _ _ _ _ _ _ (Nat.zero_le _) (Nat.zero_le _)
theorem zqD {B : Nat} {x : J} (h : okK B x) {i : Nat} (hi : i < x.list.length) : okK B (x.list.getD i j0) := zmH (zbS h).2.2.2 hi
theorem okK_get {B : Nat} {x : J} (h : okK B x) (k : List UInt8) : okK B (getJ x k).1 := by
  unfold getJ
  split
  · rename_i q
    exact zqD h (by omega)
  · exact zoU B
def ValQ (s : List UInt8) (val : Nat → JR) : Prop := ∀ i x n, i ≤ s.length → val i = .inl (x, n) → okK (4 * s.length) x
theorem zpt {s k : List UInt8} {ks : List (List UInt8)} {i n : Nat} (h : jkey s i ks = .inl (k, n)) : k ∉ ks ∧ k.length ≤ 4 * s.length := by
  unfold jkey at h
  cases h1 : jpeek s i with
  | inr e => rw [h1] at h; cases h
  | inl j =>
    rw [h1] at h
    dsimp only at h
    split at h
    · cases h
    · cases h2 : jtext s j with
      | inr e => rw [h2] at h; cases h
      | inl r =>
        obtain ⟨k2, n2⟩ := r
        rw [h2] at h
        have q2 := zii h2
        dsimp only at h
        split at h
        · cases h
        · rename_i hne
          cases h3 : jpeek s n2 with
          | inr e => rw [h3] at h; cases h
          | inl m =>
            rw [h3] at h
            dsimp only at h
            split at h
            · cases h
            · cases h
              exact ⟨hne, q2⟩
theorem zrE {s : List UInt8} {mp : Bool} {ks ks' : List (List UInt8)} {i n : Nat} (hk : ks.Nodup ∧ ∀ q ∈ ks, q.length ≤ 4 * s.length) (h : jkeys s mp i ks = .inl (ks', n)) : (ks'.Nodup ∧ ∀ q ∈ ks', q.length ≤ 4 * s.length) ∧ (mp = true → ks'.length = ks.length + 1) := by
  unfold jkeys at h
  cases mp with
  | false =>
    cases h
    exact ⟨hk, fun e => by cases e⟩
  | true =>
    rw [if_pos rfl] at h
    cases h1 : jkey s i ks with
    | inr e => rw [h1] at h; cases h
    | inl r =>
      obtain ⟨k, m⟩ := r
      rw [h1] at h
      have := zpt h1
      cases h
      refine ⟨⟨List.nodup_append.2 ⟨hk.1, by simp, fun a ha b hb => by rw [List.mem_singleton.1 hb]; exact fun e => this.1 (e ▸ ha)⟩, fun q hq => ?_⟩, fun _ => by simp⟩
      rcases List.mem_append.1 hq with hq | hq
      · exact hk.2 q hq
      · rw [List.mem_singleton.1 hq]
        exact this.2
theorem zkM {B : Nat} {mp : Bool} {l : List J} {ks : List (List UInt8)} (h1 : mp = true → ks.length = l.length) (h2 : ks.Nodup ∧ ∀ q ∈ ks, q.length ≤ B) (h3 : okKL B l) : okK B (manyV mp l ks) := by
  unfold manyV
  rw [zkr]
  refine ⟨fun e => h1 ?_, ⟨Nat.zero_le _, Nat.zero_le _⟩, h2, h3⟩
  cases mp with
  | true => rfl
  | false => exact absurd e (by decide)
theorem jgo_q {s : List UInt8} {val : Nat → JR} (hv : ValOk s val) (hk : ValQ s val) {mp : Bool} : ∀ (m i : Nat) (l : List J) (ks : List (List UInt8)) (x : J) (n : Nat), s.length - i ≤ m → i ≤ s.length → okKL (4 * s.length) l → (ks.Nodup ∧ ∀ q ∈ ks, q.length ≤ 4 * s.length) → (mp = true → ks.length = l.length) →
    jgo s val mp i l ks = .inl (x, n) → okK (4 * s.length) x := by
  intro m
  induction m with
  | zero =>
    intro i l ks x n hm hi _ _ _ h
    rw [zdJ hv hi] at h
    cases h1 : jkeys s mp i ks with
    | inr e => rw [h1] at h; cases h
    | inl r =>
      obtain ⟨ks', i1⟩ := r
      rw [h1] at h
      have q1 := zcQ hi h1
      dsimp only at h
      cases h2 : val i1 with
      | inr e => rw [h2] at h; cases h
      | inl r =>
        obtain ⟨y, i2⟩ := r
        have q2 := hv _ _ _ q1.2 h2
        omega
  | succ m ih =>
    intro i l ks x n hm hi hl hks hkl h
    rw [zdJ hv hi] at h
    cases h1 : jkeys s mp i ks with
    | inr e => rw [h1] at h; cases h
    | inl r =>
      obtain ⟨ks', i1⟩ := r
      rw [h1] at h
      have q1 := zcQ hi h1
      have k1 := zrE hks h1
      dsimp only at h
      cases h2 : val i1 with
      | inr e => rw [h2] at h; cases h
      | inl r =>
        obtain ⟨y, i2⟩ := r
        rw [h2] at h
        have q2 := hv _ _ _ q1.2 h2
        have k2 := zkm hl (hk _ _ _ q1.2 h2)
        have k3 : mp = true → ks'.length = (l ++ [y]).length := fun e => by
          rw [k1.2 e, hkl e]
          simp
        dsimp only at h
        cases h3 : jpeek s i2 with
        | inr e => rw [h3] at h; cases h
        | inl i3 =>
          rw [h3] at h
          have q3 := zaW q2.2 h3
          dsimp only at h
          split at h
          · cases h
            exact zkM k3 k1.1 k2
          · split at h
            · exact ih _ _ _ _ _ (by omega) (by omega) k2 k1.1 k3 h
            · cases h
theorem zok {s : List UInt8} {val : Nat → JR} (hv : ValOk s val) (hk : ValQ s val) {mp : Bool} {i n : Nat} {x : J} (hi : i < s.length) (h : jmany s val mp i = .inl (x, n)) : okK (4 * s.length) x := by
  unfold jmany at h
  cases h1 : jpeek s (i + 1) with
  | inr e => rw [h1] at h; cases h
  | inl j =>
    rw [h1] at h
    have q := zaW hi h1
    dsimp only at h
    split at h
    · cases h
      exact zkM (fun _ => rfl) ⟨.nil, fun q hq => by cases hq⟩ (by rw [okKL]; trivial)
    · exact jgo_q hv hk _ _ _ _ _ _ (Nat.le_refl _) (by omega) (by rw [okKL]; trivial) ⟨.nil, fun q hq => by cases hq⟩ (fun _ => rfl) h
theorem zrZ (s : List UInt8) : ∀ d, ValQ s (jval s d) := by
  intro d
  induction d with
  | zero =>
    intro i x n hi h
    unfold jval at h
    split at h <;> cases h
  | succ d ih =>
    intro i x n hi h
    unfold jval at h
    cases h1 : jpeek s i with
    | inr e => rw [h1] at h; cases h
    | inl j =>
      rw [h1] at h
      have q := zaW hi h1
      dsimp only at h
      unfold jword at h
      split at h
      · split at h <;> cases h
        exact zoU _
      · split at h
        · split at h <;> cases h
          exact zfw _ _ _ _ _ _ _ (Nat.zero_le _) (Nat.zero_le _)
        · split at h
          · split at h <;> cases h
            exact zfw _ _ _ _ _ _ _ (Nat.zero_le _) (Nat.zero_le _)
          · split at h
            · cases h2 : jtext s j with
              | inr e => rw [h2] at h; cases h
              | inl r =>
                rw [h2] at h
                have := zii h2
                cases h
                exact zfw _ _ _ _ _ _ _ this (Nat.zero_le _)
            · split at h
              · exact zok (zca s d) ih q.2.1 h
              · split at h
                · exact zok (zca s d) ih q.2.1 h
                · unfold jnum at h
                  split at h
                  · cases h
                    exact zfw _ _ _ _ _ _ _ (Nat.zero_le _) (zln powP _)
                  · cases h
theorem zpn (s : List UInt8) : okK (4 * s.length) (jparse s).1 := by
  have h0 := zoU (4 * s.length)
  unfold jparse
  split
  · exact h0
  · have hk := zrZ s 64
    cases h : jval s 64 0 with
    | inr e => exact h0
    | inl r =>
      obtain ⟨x, n⟩ := r
      dsimp only
      split
      · exact h0
      · exact hk _ _ _ (Nat.zero_le _) h
def goodJ (x : J) : Prop := jw x ≤ 1000000 ∧ okK 1000000 x
theorem zeA {x : J} (h : goodJ x) {i : Nat} (hi : i < x.list.length) : goodJ (x.list.getD i j0) := by
  have h1 := zkV hi
  have h2 := zeq x
  have h3 := h.1
  exact ⟨by omega, zqD h.2 hi⟩
theorem zqC : goodJ j0 := ⟨by decide, zoU _⟩
theorem zdu {x : J} (h : goodJ x) (k : List UInt8) : goodJ (getJ x k).1 := by
  unfold getJ
  split
  · rename_i q
    exact zeA h (by omega)
  · exact zqC

def layR (y : J) : Option Fld := if (strsJ y.list).2 = true ∧ y.kind = 4 ∧ (strsJ y.list).1.length = 2 then some ((strsJ y.list).1.getD 0 [], (strsJ y.list).1.getD 1 []) else none
def laysP : List J → List Fld × Bool
  | [] => ([], true)
  | y :: r => match layR y with
    | none => ([], false)
    | some p => (p :: (laysP r).1, (laysP r).2)
theorem zkQ {l : List J} {i : Nat} (h : i < l.length) : laysP (l.drop i) = match layR (l.getD i j0) with
    | none => ([], false)
    | some p => (p :: (laysP (l.drop (i + 1))).1, (laysP (l.drop (i + 1))).2) := by
  rw [List.drop_eq_getElem_cons h]
  rw [show l.getD i j0 = l[i] by simp [List.getD_eq_getElem?_getD, h]]
  rfl
def srN3 (x : J) : Nat := gN x kLayers (gN x kCsv (gN x kArchive 0))
def srB3 (x : J) : Bool := gB x kLayers 4 false (gB x kCsv 3 false (gB x kArchive 3 true false))
def srN5 (x : J) : Nat := gN x kAttr (gN x kKey (srN3 x))
def srB5 (x : J) : Bool := gB x kAttr 3 false (gB x kKey 3 false (srB3 x))
def srN6 (x : J) : Nat := gN x kOnly (srN5 x)
def srB6 (x : J) : Bool := gB x kOnly 4 false (srB5 x) || !(strsJ (gK x kOnly 4).list).2
def srN7 (x : J) : Nat := gN x kNot (srN6 x)
def srB7 (x : J) : Bool := gB x kNot 4 false (srB6 x) || !(strsJ (gK x kNot 4).list).2
def srN (x : J) : Nat := gN x kDrop (gN x kTexts (srN7 x))
def srB (x : J) : Bool := gB x kDrop 1 false (gB x kTexts 1 false (srB7 x))
def srcOfJ (x : J) (ls : List Fld) : SrcR := ⟨(gK x kArchive 3).text, ls, (gK x kCsv 3).text, (gK x kKey 3).text, (gK x kAttr 3).text, (strsJ (gK x kOnly 4).list).1, (strsJ (gK x kNot 4).list).1, (gK x kTexts 1).yes, (gK x kDrop 1).yes⟩
def srcPt (x : J) (ls : List Fld) : SrcR := ⟨(gK x kArchive 3).text, ls, (gK x kCsv 3).text, [], [], [], [], false, false⟩
def rdSrc (x : J) : SrcR × Bool := if (laysP (gK x kLayers 4).list).2 = true then (srcOfJ x (laysP (gK x kLayers 4).list).1, dnB x (srN x) (srB x)) else (srcPt x (laysP (gK x kLayers 4).list).1, false)
def srcRD (r : SrcR × Bool) : D := .tu [.ag (srcP r.1), .b r.2]
theorem zeF (x : J) (ls : List Fld) : Weak (.tu [.ag [.s (gK x kArchive 3).text, .sl 2 ls.length (fldF ls), .s (gK x kCsv 3).text, .s [], .s [], .nilS, .nilS, .b false, .b false], .b false]) (srcRD (srcPt x ls, false)) := .tu2 (.ag _ _ rfl fun j hj => match j, hj with
  | 0, _ => .refl _
  | 1, _ => .refl _
  | 2, _ => .refl _
  | 3, _ => .refl _
  | 4, _ => .refl _
  | 5, _ => .nil 1 _
  | 6, _ => .nil 1 _
  | 7, _ => .refl _
  | 8, _ => .refl _) (.refl _)
theorem CtrO.weakR {P : Program} {f : FuncId} {args : List D} {ow ow' : Ow} {d d' : D} (h : CtrO P f args ow d ow') (hw : Weak d d') : CtrO P f args ow d' ow' := fun X vs h1 h2 h3 h4 h5 =>
  (h X vs h1 h2 h3 h4 h5).mono fun _ _ ⟨v, S', r', g1, g2, g3⟩ => ⟨v, S', r', g1, g2.weak hw, g3⟩
theorem zeY (x : J) (k : Txt) (n : Nat) : gN x k n ≤ n + 1 := by
  unfold gN
  split <;> omega
theorem zeI {x : J} (h : goodJ x) (k : Txt) (kd : Int) : goodJ (gK x k kd) := by
  unfold gK
  split
  · exact zdu h k
  · exact zqC
theorem zkj (l : List Fld) (p : Fld) (gf : Nat → List D) (hg : gf 0 = [.s p.1, .s p.2]) : catF l.length (fldF l) 1 gf = fldF (l ++ [p]) := by
  funext j
  unfold catF fldF
  by_cases h : j < l.length
  · rw [if_pos h]
    simp [List.getD_eq_getElem?_getD, List.getElem?_append_left h]
  · rw [if_neg h]
    by_cases h2 : j < l.length + 1
    · obtain rfl : j = l.length := by omega
      rw [if_pos h2, Nat.sub_self, hg]
      simp [List.getD_eq_getElem?_getD]
    · rw [if_neg h2]
      simp only [List.getD_eq_getElem?_getD]
      rw [List.getElem?_eq_none (show l.length ≤ j by omega), List.getElem?_eq_none (show (l ++ [p]).length ≤ j by simp; omega)]
set_option maxRecDepth 100000 in
set_option maxHeartbeats 16000000 in
theorem zos (x : J) (hj : goodJ x) : Ctr Tryz.prog 54 [.ag (jP x)] (srcRD (rdSrc x)) := by
  have hw : jw x ≤ 4194304 := Nat.le_trans hj.1 (by decide)
  have hgw : ∀ k kd, jw (gK x k kd) ≤ 4194304 := fun k kd => Nat.le_trans (zeI hj k kd).1 (by decide)
  have q1 := zeY x kArchive 0
  have q2 := zeY x kCsv (gN x kArchive 0)
  have q3 : srN3 x ≤ gN x kCsv (gN x kArchive 0) + 1 := zeY x kLayers _
  have cA := zcZ x kArchive true 0 false hw (by omega)
  have cC := zcZ x kCsv false (gN x kArchive 0) (gB x kArchive 3 true false) hw (by omega)
  have cL : CtrO Tryz.prog 53 [.pv 60 0, .s kLayers, .i .i64 4, .b false] (rdO x (gN x kCsv (gN x kArchive 0)) (gB x kCsv 3 false (gB x kArchive 3 true false))) (.ag (jP (gK x kLayers 4))) (rdO x (srN3 x) (srB3 x)) := zdy x kLayers 4 false (gN x kCsv (gN x kArchive 0)) (gB x kCsv 3 false (gB x kArchive 3 true false)) hw (by omega)
  replace cL := cL.weakR (zme (gK x kLayers 4))
  have hjl := zeq (gK x kLayers 4)
  have hjk := (zeI hj kLayers 4).1
  unfold rdSrc
  refine zay Tryz.func54 rfl Tryz.ntmps54 Tryz.results54 rfl (by split <;> rfl) fun X hL hX => ?_
  repeat' (first |refine zcP (t := 15) 60 rfl rfl rfl rfl rfl ?_|refine T.pin 60 _ rfl hL ?_|with_reducible (first |refine zag ?_|refine zaa ?_|refine zaf ?_|refine zad ?_)|refine zab rfl rfl True.intro ?_|((first |refine zab rfl rfl ?_ ?_|refine zao rfl rfl ?_ ?_);focus (first |exact le_ rfl|((repeat' refine And.intro ?_ ?_)<;>omega)|((repeat' refine And.intro ?_ ?_)<;>first |rfl)))|fail)
  intro X' b hL' hX' hb
  have hX2 : X'.ids = [60] := by rw [hX', hX]
  repeat' (first |refine T.adoptV 8 1 105 46 2 _ (fldF []) rfl rfl rfl ?_|refine zrX hb rfl rfl ?_|refine zdl (f := 51) 60 (rdO x 0 false) (rdO x (gN x kArchive 0) (gB x kArchive 3 true false)) [60] [60] rfl rfl (by decide) (fun _ h => h) (fun k h1 h2 => absurd h1 h2) hb rfl rfl rfl Tryz.call51 ⟨rfl, trivial⟩ rfl rfl rfl rfl cA ?_|refine zdl (f := 51) 60 (rdO x (gN x kArchive 0) (gB x kArchive 3 true false)) (rdO x (gN x kCsv (gN x kArchive 0)) (gB x kCsv 3 false (gB x kArchive 3 true false))) [60] [60] rfl rfl (by decide) (fun _ h => h) (fun k h1 h2 => absurd h1 h2) hb rfl rfl rfl Tryz.call51 ⟨rfl, trivial⟩ rfl rfl rfl rfl cC ?_|refine zav (f := 53) 60 rfl rfl Tryz.call53 rfl rfl rfl rfl rfl cL ?_|with_reducible (first |refine zag ?_|refine zaa ?_|refine zaf ?_|refine zad ?_|refine zae ?_)|refine zab rfl rfl True.intro ?_|((first |refine zab rfl rfl ?_ ?_|refine zao rfl rfl ?_ ?_|refine zar rfl ?_ ?_);focus (first |exact le_ rfl|((repeat' refine And.intro ?_ ?_)<;>omega)|((repeat' refine And.intro ?_ ?_)<;>first |rfl|exact Nat.le_refl _)))|fail)
  clear cA cC cL
  generalize hLL : (gK x kLayers 4).list = L at *
  have hjL : jwL L ≤ 1000000 := by omega
  have hLen : L.length ≤ 1000000 := Nat.le_trans (zbZ L) hjL
  refine T.loop hL' (fun z : Nat × List Fld => [(2, .pv 2 0), (4, .pv 60 0), (5, bnd 51 b), (6, bnd 85 b), (7, bnd 86 b), (8, .pv 8 0), (29, .sl 8 L.length (jG L)), (30, .i .i64 L.length), (31, .i .i64 z.1)])
    (fun z => [(2, .var [.s [], .nilS, .s [], .s [], .s [], .nilS, .nilS, .b false, .b false]), (8, .var [.s (gK x kArchive 3).text, .gs 105 2 z.2.length (fldF z.2), .s (gK x kCsv 3).text, .s [], .s [], .nilS, .nilS, .b false, .b false]), (60, .var (rdC x (srN3 x) (srB3 x))), (105, .row 46 2 z.2.length)])
    (fun z => z.1 ≤ L.length ∧ z.2.length = z.1 ∧ laysP L = (z.2 ++ (laysP (L.drop z.1)).1, (laysP (L.drop z.1)).2)) (fun z => L.length - z.1) (0, []) ⟨Nat.zero_le _, rfl, by simp⟩
    ⟨⟨rfl, rfl, rfl, rfl, rfl, rfl, rfl, rfl, rfl, trivial⟩, ⟨rfl, rfl, rfl, rfl, trivial⟩, rfl, by rw [hX2]; simp⟩ ?_
  rintro ⟨i, acc⟩ ⟨g1, g2, g3⟩
  dsimp only at g1 g2 g3 ⊢
  have hnat : (i : Int).toNat = i := Int.toNat_natCast i
  by_cases hil : i < L.length
  · have hil' : (i : Int) < L.length := by omega
    rw [zkQ hil] at g3
    have hyw : jw (L.getD (i : Int).toNat j0) ≤ 4194304 := by
      have h2 := zkV (l := L) (i := (i : Int).toNat) (by omega)
      omega
    have cS := zeV (L.getD (i : Int).toNat j0) hyw
    have hlr : layR (L.getD i j0) = layR (L.getD (i : Int).toNat j0) := by rw [hnat]
    rw [hlr] at g3
    clear hlr hyw
    unfold layR at g3
    generalize strsJ (L.getD (i : Int).toNat j0).list = r at cS g3
    obtain ⟨t, ok⟩ := r
    replace cS : Ctr Tryz.prog 87 [.ag (jP (L.getD (i : Int).toNat j0))] (.tu [.sl 1 t.length (txF t), .b ok]) := cS
    dsimp only at g3
    cases ok with
    | false =>
      rw [if_neg (fun h => by cases h.1)] at g3
      replace g3 : laysP L = (acc, false) := g3.trans (by simp)
      rw [g3, if_neg Bool.false_ne_true]
      repeat' (first |refine zah (f := 87) rfl rfl Tryz.call87 rfl cS ?_|with_reducible (first |refine zag ?_|refine zaa ?_|refine zaf ?_|refine zad ?_|refine zaj ?_|refine zai ?_|refine zae ?_|refine zal ?_|refine zap ?_)|refine zab rfl rfl True.intro ?_|refine zau rfl rfl rfl ?_|refine zas rfl ?_|((first |refine zac rfl ?_ ?_)<;>intro<;>try (first |(exfalso;omega)))|((first |refine zab rfl rfl ?_ ?_|refine zao rfl rfl ?_ ?_|refine zar rfl ?_ ?_);focus (first |omega|exact le_ rfl|((repeat' refine And.intro ?_ ?_)<;>omega)|((repeat' refine And.intro ?_ ?_)<;>first |rfl|exact Nat.le_refl _)))|refine zaB rfl ?_|fail)
      all_goals exact zeF x acc
    | true =>
    by_cases hk : (L.getD (i : Int).toNat j0).kind = 4
    rotate_left
    · rw [if_neg (fun h => hk h.2.1)] at g3
      replace g3 : laysP L = (acc, false) := g3.trans (by simp)
      rw [g3, if_neg Bool.false_ne_true]
      repeat' (first |refine zah (f := 87) rfl rfl Tryz.call87 rfl cS ?_|with_reducible (first |refine zag ?_|refine zaa ?_|refine zaf ?_|refine zad ?_|refine zaj ?_|refine zai ?_|refine zae ?_|refine zal ?_|refine zap ?_)|refine zab rfl rfl True.intro ?_|refine zau rfl rfl rfl ?_|refine zam rfl rfl rfl rfl True.intro ?_|refine zas rfl ?_|((first |refine zac rfl ?_ ?_|refine zaQ rfl rfl ?_ ?_|refine zaF rfl rfl ?_ ?_)<;>intro<;>try (first |(rename_i hz;exact tf_ hz)|(exfalso;omega)))|((first |refine zab rfl rfl ?_ ?_|refine zam rfl rfl rfl rfl ?_ ?_|refine zao rfl rfl ?_ ?_|refine zar rfl ?_ ?_);focus (first |omega|exact le_ rfl|((repeat' refine And.intro ?_ ?_)<;>omega)|((repeat' refine And.intro ?_ ?_)<;>first |rfl|exact Nat.le_refl _)))|refine zaB rfl ?_|fail)
      all_goals exact zeF x acc
    by_cases ht : t.length = 2
    rotate_left
    · rw [if_neg (fun h => ht h.2.2)] at g3
      replace g3 : laysP L = (acc, false) := g3.trans (by simp)
      have ht' : ¬ (t.length : Int) = 2 := by omega
      rw [g3, if_neg Bool.false_ne_true]
      repeat' (first |refine zah (f := 87) rfl rfl Tryz.call87 rfl cS ?_|with_reducible (first |refine zag ?_|refine zaa ?_|refine zaf ?_|refine zad ?_|refine zaj ?_|refine zai ?_|refine zae ?_|refine zal ?_|refine zap ?_)|refine zab rfl rfl True.intro ?_|refine zam rfl rfl rfl rfl True.intro ?_|((first |refine zac rfl ?_ ?_|refine zat rfl ?_ ?_|refine zaQ rfl rfl ?_ ?_|refine zaF rfl rfl ?_ ?_)<;>intro<;>try (first |(rename_i hz;exact tf_ hz)|(exfalso;omega)))|((first |refine zab rfl rfl ?_ ?_|refine zam rfl rfl rfl rfl ?_ ?_|refine zao rfl rfl ?_ ?_|refine zar rfl ?_ ?_);focus (first |omega|exact le_ rfl|((repeat' refine And.intro ?_ ?_)<;>omega)|((repeat' refine And.intro ?_ ?_)<;>first |rfl|exact Nat.le_refl _)))|refine zaB rfl ?_|fail)
      all_goals exact zeF x acc
    rw [if_pos ⟨rfl, hk, ht⟩] at g3
    obtain ⟨u, v, rfl⟩ : ∃ u v, t = [u, v] := by
      match t, ht with
      | [u, v], _ => exact ⟨u, v, rfl⟩
    replace g3 : laysP L = ((acc ++ [(u, v)]) ++ (laysP (L.drop (i + 1))).1, (laysP (L.drop (i + 1))).2) := g3.trans (by simp)
    have e := zkj acc (u, v) (chunk 2 [.s u, .s v]) rfl
    have g4 : (acc ++ [(u, v)]).length = acc.length + 1 := by simp
    repeat' (first |refine zah (f := 87) rfl rfl Tryz.call87 rfl cS ?_|with_reducible (first |refine zag ?_|refine zaa ?_|refine zaf ?_|refine zad ?_|refine zai ?_|refine zae ?_|refine zaq ?_|refine zaD ?_)|refine zab rfl rfl True.intro ?_|refine zam rfl rfl rfl rfl True.intro ?_|refine zak rfl ?_|((first |refine zac rfl ?_ ?_|refine zaQ rfl rfl ?_ ?_|refine zaF rfl rfl ?_ ?_)<;>intro<;>try (first |(rename_i hz;exact tf_ hz)|(exfalso;omega)))|((first |refine zab rfl rfl ?_ ?_|refine zam rfl rfl rfl rfl ?_ ?_|refine zao rfl rfl ?_ ?_|refine zar rfl ?_ ?_);focus (first |omega|exact le_ rfl|((repeat' refine And.intro ?_ ?_)<;>omega)|((repeat' refine And.intro ?_ ?_)<;>first |omega|rfl|exact Nat.le_refl _|exact le_ rfl)))|with_reducible refine ⟨by kernel_rfl, ?_⟩|fail)
    all_goals exact ⟨(i + 1, acc ++ [(u, v)]), ⟨by dsimp only; omega, by dsimp only; omega, g3⟩, by dsimp only; omega, ⟨rfl, rfl, rfl, rfl, rfl, rfl, rfl, rfl, rfl, trivial⟩, ⟨rfl, by rw [g4, ← e]; rfl, rfl, by rw [g4]; rfl, trivial⟩, rfl, by rw [hX2]; simp⟩
  have hil' : ¬ (i : Int) < L.length := by omega
  have g5 : laysP L = (acc, true) := by
    rw [g3, List.drop_eq_nil_of_le (by omega)]
    show (acc ++ [], true) = _
    rw [List.append_nil]
  rw [g5, if_pos rfl]
  clear g3 g5 hLL
  have q4 := zeY x kKey (srN3 x)
  have q5 : srN5 x ≤ gN x kKey (srN3 x) + 1 := zeY x kAttr _
  have q6 : srN6 x ≤ srN5 x + 1 := zeY x kOnly _
  have q7 : srN7 x ≤ srN6 x + 1 := zeY x kNot _
  have q8 := zeY x kTexts (srN7 x)
  have cK := zcZ x kKey false (srN3 x) (srB3 x) hw (by omega)
  have cA : CtrO Tryz.prog 51 [.pv 60 0, .s kAttr, .b false] (rdO x (gN x kKey (srN3 x)) (gB x kKey 3 false (srB3 x))) (.s (gK x kAttr 3).text) (rdO x (srN5 x) (srB5 x)) := zcZ x kAttr false _ _ hw (by omega)
  have cO : CtrO Tryz.prog 86 [.pv 60 0, .s kOnly] (rdO x (srN5 x) (srB5 x)) (.sl 1 (strsJ (gK x kOnly 4).list).1.length (txF (strsJ (gK x kOnly 4).list).1)) (rdO x (srN6 x) (srB6 x)) := zhP x kOnly _ _ hw (by omega) (hgw _ _)
  have cN : CtrO Tryz.prog 86 [.pv 60 0, .s kNot] (rdO x (srN6 x) (srB6 x)) (.sl 1 (strsJ (gK x kNot 4).list).1.length (txF (strsJ (gK x kNot 4).list).1)) (rdO x (srN7 x) (srB7 x)) := zhP x kNot _ _ hw (by omega) (hgw _ _)
  have cT := zgm x kTexts (srN7 x) (srB7 x) hw (by omega)
  have cD : CtrO Tryz.prog 85 [.pv 60 0, .s kDrop] (rdO x (gN x kTexts (srN7 x)) (gB x kTexts 1 false (srB7 x))) (.b (gK x kDrop 1).yes) (rdO x (srN x) (srB x)) := zgm x kDrop _ _ hw (by omega)
  have cE := zig x (srN x) (srB x) hw
  repeat' (first |refine zdl (f := 51) 60 (rdO x (srN3 x) (srB3 x)) (rdO x (gN x kKey (srN3 x)) (gB x kKey 3 false (srB3 x))) [60] [60] rfl rfl (by decide) (fun _ h => h) (fun k h1 h2 => absurd h1 h2) hb rfl rfl rfl Tryz.call51 ⟨rfl, trivial⟩ rfl rfl rfl rfl cK ?_|refine zdl (f := 51) 60 (rdO x (gN x kKey (srN3 x)) (gB x kKey 3 false (srB3 x))) (rdO x (srN5 x) (srB5 x)) [60] [60] rfl rfl (by decide) (fun _ h => h) (fun k h1 h2 => absurd h1 h2) hb rfl rfl rfl Tryz.call51 ⟨rfl, trivial⟩ rfl rfl rfl rfl cA ?_|refine zdl (f := 86) 60 (rdO x (srN5 x) (srB5 x)) (rdO x (srN6 x) (srB6 x)) [60] [60] rfl rfl (by decide) (fun _ h => h) (fun k h1 h2 => absurd h1 h2) hb rfl rfl rfl Tryz.call86 ⟨rfl, trivial⟩ rfl rfl rfl rfl cO ?_|refine zdl (f := 86) 60 (rdO x (srN6 x) (srB6 x)) (rdO x (srN7 x) (srB7 x)) [60] [60] rfl rfl (by decide) (fun _ h => h) (fun k h1 h2 => absurd h1 h2) hb rfl rfl rfl Tryz.call86 ⟨rfl, trivial⟩ rfl rfl rfl rfl cN ?_|refine zdl (f := 85) 60 (rdO x (srN7 x) (srB7 x)) (rdO x (gN x kTexts (srN7 x)) (gB x kTexts 1 false (srB7 x))) [60] [60] rfl rfl (by decide) (fun _ h => h) (fun k h1 h2 => absurd h1 h2) hb rfl rfl rfl Tryz.call85 ⟨rfl, trivial⟩ rfl rfl rfl rfl cT ?_|refine zdl (f := 85) 60 (rdO x (gN x kTexts (srN7 x)) (gB x kTexts 1 false (srB7 x))) (rdO x (srN x) (srB x)) [60] [60] rfl rfl (by decide) (fun _ h => h) (fun k h1 h2 => absurd h1 h2) hb rfl rfl rfl Tryz.call85 ⟨rfl, trivial⟩ rfl rfl rfl rfl cD ?_|refine znx (f := 55) (rdO x (srN x) (srB x)) [60] rfl (by decide) rfl rfl Tryz.call55 ⟨rfl, trivial⟩ rfl rfl rfl cE ?_|with_reducible (first |refine zag ?_|refine zaa ?_|refine zaf ?_|refine zad ?_|refine zaj ?_|refine zaz ?_|refine zaA ?_|refine zaD ?_)|refine zab rfl rfl True.intro ?_|((first |refine zac rfl ?_ ?_)<;>intro<;>try (first |(exfalso;omega)))|((first |refine zab rfl rfl ?_ ?_|refine zar rfl ?_ ?_);focus (first |exact le_ rfl|((repeat' refine And.intro ?_ ?_)<;>omega)|((repeat' refine And.intro ?_ ?_)<;>first |rfl|exact Nat.le_refl _)))|refine zaJ rfl ?_|with_reducible refine ⟨by kernel_rfl, ?_⟩|refine zaB rfl ?_|fail)
  all_goals exact .of_eq rfl

section
variable {c0 c1 c2 c3 c4 c5 c6 c7 : D} {q z : Int}
abbrev pObj (c0 c1 c2 c3 c4 c5 c6 c7 : D) (q z : Int) : Ow := [(2, .var [c0, c1, c2, c3, c4, c5, c6, c7]), (3, .var [.i .i64 q]), (4, .var [.i .i64 z])]
set_option maxRecDepth 100000 in
set_option maxHeartbeats 1000000 in
theorem zkE (p : Nat) (e : Int) : CtrD Tryz.prog 47 [.pv 2 0, .pv 3 0, .pv 4 0] (pObj c0 c1 c2 c3 c4 c5 c6 c7 q z) (.panicking (pchain (pvS p e)))
    [(2, .var j0C), (3, .var [.i .i64 p]), (4, .var [.i .i64 e])] (.panicking [{ v := pvS p e, recovered := true }]) := by
  refine CtrD.of_TS Tryz.func47 rfl Tryz.ntmps47 Tryz.results47 (by decide) rfl rfl rfl fun X c₀ cs hL hX hdf hu => ?_
  refine zgK ({ c₀ with mode := .panicking [{ v := pvS p e, recovered := true }] } :: cs) (pvS p e) rfl (by
    have h0 : recoverD (c₀ :: cs) = some (pvS p e, { c₀ with mode := .panicking [{ v := pvS p e, recovered := true }] } :: cs) := by
      simp only [recoverD, hu, pchain]
    rw [h0]
    exact ⟨rfl, rfl⟩) rfl ?_
  repeat' (first |refine znr Tryz.underlying83 rfl rfl ?_|refine zmF 60 rfl rfl rfl rfl rfl ?_|with_reducible (first |refine zaf ?_)|refine zab rfl rfl True.intro ?_|((first |refine zar rfl ?_ ?_);focus (first |((repeat' refine And.intro ?_ ?_)<;>omega)|((repeat' refine And.intro ?_ ?_)<;>first |rfl|exact Nat.le_refl _)))|fail)
  refine zcS ?_
  repeat' (first |refine zjY ?_|with_reducible (first |refine zaa ?_|refine zaf ?_|refine zad ?_|refine zaD ?_)|refine zab rfl rfl True.intro ?_|refine zas rfl ?_|((first |refine zab rfl rfl ?_ ?_|refine zar rfl ?_ ?_);focus (first |exact le_ rfl|((repeat' refine And.intro ?_ ?_)<;>omega)|((repeat' refine And.intro ?_ ?_)<;>first |rfl|exact Nat.le_refl _)))|with_reducible refine ⟨by kernel_rfl, ?_⟩|refine zrV ⟨?_⟩|fail)
  all_goals exact fun a w hr => ⟨.inl rfl, rfl, _, _, hr, rfl, rfl, rfl, trivial⟩
set_option maxRecDepth 100000 in
set_option maxHeartbeats 1000000 in
theorem znc (k : Int) (y n : Bool) (d : List UInt8) (e : Int) (t : List UInt8) (l : List J) (ks : List (List UInt8)) : CtrD Tryz.prog 47 [.pv 2 0, .pv 3 0, .pv 4 0] (pObj (.i .i64 k) (.b y) (.b n) (.s d) (.i .i64 e) (.s t) (.sl 8 l.length (jF l)) (.sl 1 ks.length (txF ks)) q z) .returning (pObj (.i .i64 k) (.b y) (.b n) (.s d) (.i .i64 e) (.s t) (.sl 8 l.length (jF l)) (.sl 1 ks.length (txF ks)) q z) .returning := by
  refine CtrD.of_TS Tryz.func47 rfl Tryz.ntmps47 Tryz.results47 (by decide) rfl rfl rfl fun X c₀ cs hL hX hdf hu => ?_
  refine zgK (c₀ :: cs) .nilIface rfl (by
    have h0 : recoverD (c₀ :: cs) = none := by
      simp only [recoverD, hu]
    rw [h0]
    exact ⟨rfl, rfl⟩) rfl ?_
  repeat' (first |refine zoF Tryz.underlying83 rfl rfl rfl ?_|refine zmF 60 rfl rfl rfl rfl rfl ?_|with_reducible (first |refine zaf ?_)|refine zab rfl rfl True.intro ?_|((first |refine zar rfl ?_ ?_);focus (first |((repeat' refine And.intro ?_ ?_)<;>omega)|((repeat' refine And.intro ?_ ?_)<;>first |omega|rfl)))|fail)
  refine zcS ?_
  repeat' (first |refine zjY ?_|with_reducible (first |refine zaa ?_|refine zaf ?_|refine zad ?_|refine zai ?_)|refine zab rfl rfl True.intro ?_|refine zak rfl ?_|refine zrV ⟨?_⟩|fail)
  all_goals exact fun a w hr => ⟨.inl rfl, by
    cases c₀
    cases hu
    rfl, _, _, hr, rfl, rfl, rfl, trivial⟩
end
def parD (r : J × Nat × Int) : D := .tu [.ag (jC r.1), .i .i64 r.2.1, .i .i64 r.2.2]
theorem zfW (p e : Int) : Weak (.tu [.ag j0C, .i .i64 p, .i .i64 e]) (.tu [.ag (jC j0), .i .i64 p, .i .i64 e]) := .tu3 (zbQ 0 false) (.refl _) (.refl _)
set_option maxRecDepth 100000 in
set_option maxHeartbeats 4000000 in
theorem zlE (s : List UInt8) (hs : s.length ≤ 4194304) : Ctr Tryz.prog 25 [.s s] (parD (jparse s)) := by
  refine zsx Tryz.func25 rfl Tryz.ntmps25 rfl fun X hL hX hdf hr0 => ?_
  have hfree : (parD (jparse s)).free = true := by
    unfold parD
    generalize jparse s = r
    obtain ⟨⟨k, y, n, d, e, t, l, ks⟩, p, c⟩ := r
    rw [zbz]
    rfl
  unfold jparse at *
  by_cases hb : 1048576 < s.length
  · rw [if_pos hb] at *
    repeat' (first |refine zcS ?_|with_reducible (first |refine zag ?_|refine zaa ?_|refine zaf ?_|refine zad ?_|refine zaj ?_|refine zal ?_)|refine zab rfl rfl True.intro ?_|((first |refine zac rfl ?_ ?_)<;>intro<;>try (first |(exfalso;omega)))|((first |refine zao rfl rfl ?_ ?_|refine zar rfl ?_ ?_);focus (first |((repeat' refine And.intro ?_ ?_)<;>omega)|((repeat' refine And.intro ?_ ?_)<;>first |rfl|exact Nat.le_refl _)))|refine zsy ⟨?_⟩|fail)
    · exact fun a w hr => zns hdf hr Tryz.results25 rfl (zfW 0 5) hfree
  · rw [if_neg hb] at *
    have v1 := zlq s (by omega) 64 (by decide) 0 (Nat.zero_le _)
    have hvo := zca s 64 0
    cases hv : jval s 64 0 with
    | inr e =>
      obtain ⟨p, e⟩ := e
      rw [hv] at v1 hfree
      repeat' (first |refine zhw [2, 3, 4] hdf hr0 rfl rfl ?_|refine zcS ?_|with_reducible (first |refine zag ?_|refine zaa ?_|refine zaf ?_|refine zad ?_|refine zai ?_)|refine zab rfl rfl True.intro ?_|((first |refine zac rfl ?_ ?_)<;>intro<;>try (first |(exfalso;omega)))|((first |refine zao rfl rfl ?_ ?_);focus (first |((repeat' refine And.intro ?_ ?_)<;>omega)|((repeat' refine And.intro ?_ ?_)<;>first |rfl)))|fail)
      intro X1 vs hput
      repeat' (first |refine zcS ?_|(refine zbE (id := 5) 1 ?_;dsimp only [splitOp])|refine zbp 13 rfl Tryz.call48 rfl rfl rfl rfl v1 ?_|with_reducible (first |refine zaa ?_|refine zaf ?_|refine zad ?_)|refine zab rfl rfl True.intro ?_|((first |refine zao rfl rfl ?_ ?_);focus (first |((repeat' refine And.intro ?_ ?_)<;>omega)|((repeat' refine And.intro ?_ ?_)<;>first |rfl)))|refine zaX ?_|refine zsc ⟨?_⟩|fail)
      exact fun a w hr => (zjJ hput Tryz.call47 (zkE p e) (fun h => by cases h) rfl ⟨rfl, rfl, rfl, trivial⟩ rfl rfl (by decide) rfl rfl hr Tryz.results25 _ (zfe _ 2 3 4 _ _ _ (by decide) (by decide) (by decide)) rfl (zfW p e) hfree)
    | inl r =>
      obtain ⟨x, m⟩ := r
      rw [hv] at v1 hfree
      obtain ⟨k, y, n, d, e, t, l, ks⟩ := x
      have v1' : CtrO Tryz.prog 48 [.pv 13 0, .i .i64 ((64 : Nat) : Int)] (rdr s 0) (.ag [.i .i64 k, .b y, .b n, .s d, .i .i64 e, .s t, .sl 8 l.length (jF l), .sl 1 ks.length (txF ks)]) (rdr s m) := by
        rw [← zbz]
        exact v1
      have hml : m ≤ s.length := (hvo _ _ (Nat.zero_le _) hv).2
      have s1 := zir s m (by omega) hml
      have hsk := zbT hml
      clear v1 hvo hv
      dsimp only at hfree
      show TD _ _ _ _ _ _ (bodyPostD _ _ (Fin _ (parD (if skN s m < s.length then (j0, skN s m, 3) else (.mk k y n d e t l ks, s.length, 0)))))
      by_cases hq : skN s m < s.length
      · rw [if_pos hq] at hfree ⊢
        have f1 := zbq (skN s m) 3
        repeat' (first |refine zhw [2, 3, 4] hdf hr0 rfl rfl ?_|refine zcS ?_|with_reducible (first |refine zag ?_|refine zaa ?_|refine zaf ?_|refine zad ?_|refine zai ?_)|refine zab rfl rfl True.intro ?_|((first |refine zac rfl ?_ ?_)<;>intro<;>try (first |(exfalso;omega)))|((first |refine zao rfl rfl ?_ ?_);focus (first |((repeat' refine And.intro ?_ ?_)<;>omega)|((repeat' refine And.intro ?_ ?_)<;>first |rfl)))|fail)
        intro X1 vs hput
        repeat' (first |refine zcS ?_|(refine zbE (id := 8) 4 ?_;dsimp only [splitOp])|refine zav (f := 48) 13 rfl rfl Tryz.call48 rfl rfl rfl rfl rfl v1' ?_|refine zav (f := 49) 13 rfl rfl Tryz.call49 rfl rfl rfl rfl rfl s1 ?_|refine zdi rfl Tryz.call50 rfl f1 ?_|with_reducible (first |refine zag ?_|refine zaa ?_|refine zaf ?_|refine zad ?_)|refine zab rfl rfl True.intro ?_|((first |refine zac rfl ?_ ?_)<;>intro<;>try (first |(exfalso;omega)))|((first |refine zab rfl rfl ?_ ?_|refine zao rfl rfl ?_ ?_|refine zar rfl ?_ ?_);focus (first |exact le_ rfl|((repeat' refine And.intro ?_ ?_)<;>omega)|((repeat' refine And.intro ?_ ?_)<;>first |rfl|exact Nat.le_refl _)))|refine zaX ?_|refine zsc ⟨?_⟩|fail)
        exact fun a w hr => (zjJ hput Tryz.call47 (zkE (skN s m) 3) (fun h => by cases h) rfl ⟨rfl, rfl, rfl, trivial⟩ rfl rfl (by decide) rfl rfl hr Tryz.results25 _ (zfe _ 2 3 4 _ _ _ (by decide) (by decide) (by decide)) rfl (zfW (skN s m) 3) hfree)
      · rw [if_neg hq] at hfree ⊢
        unfold parD at hfree ⊢
        dsimp only at hfree ⊢
        rw [zbz] at hfree ⊢
        repeat' (first |refine zhw [2, 3, 4] hdf hr0 rfl rfl ?_|refine zcS ?_|with_reducible (first |refine zag ?_|refine zaa ?_|refine zaf ?_|refine zad ?_|refine zai ?_)|refine zab rfl rfl True.intro ?_|((first |refine zac rfl ?_ ?_)<;>intro<;>try (first |(exfalso;omega)))|((first |refine zao rfl rfl ?_ ?_);focus (first |((repeat' refine And.intro ?_ ?_)<;>omega)|((repeat' refine And.intro ?_ ?_)<;>first |rfl)))|fail)
        intro X1 vs hput
        repeat' (first |refine zcS ?_|refine zjY ?_|refine zav (f := 48) 13 rfl rfl Tryz.call48 rfl rfl rfl rfl rfl v1' ?_|refine zav (f := 49) 13 rfl rfl Tryz.call49 rfl rfl rfl rfl rfl s1 ?_|with_reducible (first |refine zag ?_|refine zaa ?_|refine zaf ?_|refine zad ?_|refine zaj ?_|refine zai ?_)|refine zab rfl rfl True.intro ?_|((first |refine zac rfl ?_ ?_)<;>intro<;>try (first |(exfalso;omega)))|((first |refine zab rfl rfl ?_ ?_|refine zao rfl rfl ?_ ?_|refine zar rfl ?_ ?_);focus (first |exact le_ rfl|((repeat' refine And.intro ?_ ?_)<;>omega)|((repeat' refine And.intro ?_ ?_)<;>first |rfl|exact Nat.le_refl _)))|refine zsy ⟨?_⟩|fail)
        exact fun a w hr => (zjJ hput Tryz.call47 (znc k y n d e t l ks) (fun h => by cases h) rfl ⟨rfl, rfl, rfl, trivial⟩ rfl rfl (by decide) rfl rfl hr Tryz.results25 _ (zfe _ 2 3 4 _ _ _ (by decide) (by decide) (by decide)) rfl (.refl _) hfree)

def srcsP : List J → List SrcR × Bool
  | [] => ([], true)
  | y :: r => if (rdSrc y).2 = true then ((rdSrc y).1 :: (srcsP r).1, (srcsP r).2) else ([], false)
theorem zkz {l : List J} {i : Nat} (h : i < l.length) : srcsP (l.drop i) = if (rdSrc (l.getD i j0)).2 = true then ((rdSrc (l.getD i j0)).1 :: (srcsP (l.drop (i + 1))).1, (srcsP (l.drop (i + 1))).2) else ([], false) := by
  rw [List.drop_eq_getElem_cons h]
  rw [show l.getD i j0 = l[i] by simp [List.getD_eq_getElem?_getD, h]]
  rfl
def cmN1 (x : J) : Nat := gN x kId 0
def cmB1 (x : J) : Bool := gB x kId 3 true false
def cmN2 (x : J) : Nat := gN x kBuffer (cmN1 x)
def cmB2 (x : J) : Bool := gB x kBuffer 2 true (cmB1 x) || !(whJ (gK x kBuffer 2)).2
def cmN3 (x : J) : Nat := gN x kMaxzoom (cmN2 x)
def cmB3 (x : J) : Bool := gB x kMaxzoom 2 true (cmB2 x) || !(whJ (gK x kMaxzoom 2)).2
def cmN4 (x : J) : Nat := gN x kLimit (cmN3 x)
def cmB4 (x : J) : Bool := gB x kLimit 2 true (cmB3 x) || !(whJ (gK x kLimit 2)).2
def cmN (x : J) : Nat := gN x kSources (cmN4 x)
def cmB (x : J) : Bool := gB x kSources 4 true (cmB4 x)
def cmpOfJ (x : J) (ss : List SrcR) : CmpR := ⟨(gK x kId 3).text, ss, (whJ (gK x kBuffer 2)).1, (whJ (gK x kMaxzoom 2)).1, (whJ (gK x kLimit 2)).1⟩
def rdCmp (x : J) : CmpR × Bool := (cmpOfJ x (srcsP (gK x kSources 4).list).1, (srcsP (gK x kSources 4).list).2 && dnB x (cmN x) (cmB x))
def cmpRD (r : CmpR × Bool) : D := .tu [.ag (cmpP r.1), .b r.2]
theorem zkw (l : List SrcR) (p : SrcR) (gf : Nat → List D) (hg : gf 0 = srcP p) : catF l.length (srcF l) 1 gf = srcF (l ++ [p]) := by
  funext j
  unfold catF srcF
  by_cases h : j < l.length
  · rw [if_pos h]
    simp [List.getD_eq_getElem?_getD, List.getElem?_append_left h]
  · rw [if_neg h]
    by_cases h2 : j < l.length + 1
    · obtain rfl : j = l.length := by omega
      rw [if_pos h2, Nat.sub_self, hg]
      simp [List.getD_eq_getElem?_getD]
    · rw [if_neg h2]
      simp only [List.getD_eq_getElem?_getD]
      rw [List.getElem?_eq_none (show l.length ≤ j by omega), List.getElem?_eq_none (show (l ++ [p]).length ≤ j by simp; omega)]
set_option maxRecDepth 100000 in
set_option maxHeartbeats 16000000 in
theorem zoo (x : J) (hj : goodJ x) : Ctr Tryz.prog 26 [.ag (jP x)] (cmpRD (rdCmp x)) := by
  have hw : jw x ≤ 4194304 := Nat.le_trans hj.1 (by decide)
  have hgd : ∀ k kd, (gK x k kd).dig.length ≤ 1048576 := fun k kd => Nat.le_trans (zbS (zeI hj k kd).2).2.1.2 (by decide)
  have q1 : cmN1 x ≤ 0 + 1 := zeY x kId 0
  have q2 : cmN2 x ≤ cmN1 x + 1 := zeY x kBuffer _
  have q3 : cmN3 x ≤ cmN2 x + 1 := zeY x kMaxzoom _
  have q4 : cmN4 x ≤ cmN3 x + 1 := zeY x kLimit _
  have cI : CtrO Tryz.prog 51 [.pv 60 0, .s kId, .b true] (rdO x 0 false) (.s (gK x kId 3).text) (rdO x (cmN1 x) (cmB1 x)) := zcZ x kId true 0 false hw (by omega)
  have cU : CtrO Tryz.prog 52 [.pv 60 0, .s kBuffer] (rdO x (cmN1 x) (cmB1 x)) (.i .i64 (whJ (gK x kBuffer 2)).1) (rdO x (cmN2 x) (cmB2 x)) := zev x kBuffer _ _ hw (by omega) (hgd _ _)
  have cM : CtrO Tryz.prog 52 [.pv 60 0, .s kMaxzoom] (rdO x (cmN2 x) (cmB2 x)) (.i .i64 (whJ (gK x kMaxzoom 2)).1) (rdO x (cmN3 x) (cmB3 x)) := zev x kMaxzoom _ _ hw (by omega) (hgd _ _)
  have cT : CtrO Tryz.prog 52 [.pv 60 0, .s kLimit] (rdO x (cmN3 x) (cmB3 x)) (.i .i64 (whJ (gK x kLimit 2)).1) (rdO x (cmN4 x) (cmB4 x)) := zev x kLimit _ _ hw (by omega) (hgd _ _)
  have cL : CtrO Tryz.prog 53 [.pv 60 0, .s kSources, .i .i64 4, .b true] (rdO x (cmN4 x) (cmB4 x)) (.ag (jP (gK x kSources 4))) (rdO x (cmN x) (cmB x)) := zdy x kSources 4 true _ _ hw (by omega)
  replace cL := cL.weakR (zme (gK x kSources 4))
  have cE := zig x (cmN x) (cmB x) hw
  have hgS := zeI hj kSources 4
  have hjl := zeq (gK x kSources 4)
  have hjk := hgS.1
  have hgA : ∀ i, i < (gK x kSources 4).list.length → goodJ ((gK x kSources 4).list.getD i j0) := fun i hi => zeA hgS hi
  clear hgS
  unfold rdCmp
  refine zay Tryz.func26 rfl Tryz.ntmps26 Tryz.results26 rfl rfl fun X hL hX => ?_
  repeat' (first |refine zcP (t := 12) 60 rfl rfl rfl rfl rfl ?_|refine T.adoptV 5 1 105 45 9 _ (srcF []) rfl rfl rfl ?_|refine zav (f := 51) 60 rfl rfl Tryz.call51 rfl rfl rfl rfl rfl cI ?_|refine zav (f := 52) 60 rfl rfl Tryz.call52 rfl rfl rfl rfl rfl cU ?_|refine zav (f := 52) 60 rfl rfl Tryz.call52 rfl rfl rfl rfl rfl cM ?_|refine zav (f := 52) 60 rfl rfl Tryz.call52 rfl rfl rfl rfl rfl cT ?_|refine zav (f := 53) 60 rfl rfl Tryz.call53 rfl rfl rfl rfl rfl cL ?_|with_reducible (first |refine zag ?_|refine zaa ?_|refine zaf ?_|refine zad ?_|refine zae ?_)|refine zab rfl rfl True.intro ?_|((first |refine zab rfl rfl ?_ ?_|refine zao rfl rfl ?_ ?_|refine zar rfl ?_ ?_);focus (first |exact le_ rfl|((repeat' refine And.intro ?_ ?_)<;>omega)|((repeat' refine And.intro ?_ ?_)<;>first |rfl|exact Nat.le_refl _)))|fail)
  clear cI cU cM cT cL
  generalize hLL : (gK x kSources 4).list = L at *
  have hLen : L.length ≤ 1000000 := Nat.le_trans (zbZ L) (by omega)
  refine T.loop hL (fun z : Nat × List SrcR => [(2, .pv 2 0), (4, .pv 60 0), (5, .pv 5 0), (24, .sl 8 L.length (jG L)), (25, .i .i64 L.length), (26, .i .i64 z.1)])
    (fun z => [(2, .var [.s [], .nilS, .i .i64 0, .i .i64 0, .i .i64 0]), (5, .var [.s (gK x kId 3).text, .gs 105 9 z.2.length (srcF z.2), .i .i64 (whJ (gK x kBuffer 2)).1, .i .i64 (whJ (gK x kMaxzoom 2)).1, .i .i64 (whJ (gK x kLimit 2)).1]), (60, .var (rdC x (cmN x) (cmB x))), (105, .row 45 9 z.2.length)])
    (fun z => z.1 ≤ L.length ∧ z.2.length = z.1 ∧ srcsP L = (z.2 ++ (srcsP (L.drop z.1)).1, (srcsP (L.drop z.1)).2)) (fun z => L.length - z.1) (0, []) ⟨Nat.zero_le _, rfl, by simp⟩
    ⟨⟨rfl, rfl, rfl, rfl, rfl, rfl, trivial⟩, ⟨rfl, rfl, rfl, rfl, trivial⟩, rfl, by rw [hX]; simp⟩ ?_
  rintro ⟨i, acc⟩ ⟨g1, g2, g3⟩
  dsimp only at g1 g2 g3 ⊢
  have hnat : (i : Int).toNat = i := Int.toNat_natCast i
  by_cases hil : i < L.length
  · have hil' : (i : Int) < L.length := by omega
    rw [zkz hil] at g3
    have cS := zos (L.getD (i : Int).toNat j0) (hgA _ (by omega))
    have hlr : rdSrc (L.getD i j0) = rdSrc (L.getD (i : Int).toNat j0) := by rw [hnat]
    rw [hlr] at g3
    clear hlr
    generalize rdSrc (L.getD (i : Int).toNat j0) = r at cS g3
    obtain ⟨s, ok⟩ := r
    replace cS : Ctr Tryz.prog 54 [.ag (jP (L.getD (i : Int).toNat j0))] (.tu [.ag (srcP s), .b ok]) := cS
    cases ok with
    | false =>
      rw [if_neg (fun h => by cases h)] at g3
      replace g3 : srcsP L = (acc, false) := g3.trans (by simp)
      rw [g3]
      repeat' (first |refine zah (f := 54) rfl rfl Tryz.call54 rfl cS ?_|with_reducible (first |refine zag ?_|refine zaa ?_|refine zaf ?_|refine zad ?_|refine zaj ?_|refine zai ?_|refine zae ?_|refine zal ?_|refine zap ?_)|refine zab rfl rfl True.intro ?_|refine zas rfl ?_|((first |refine zac rfl ?_ ?_)<;>intro<;>try (first |(exfalso;omega)))|((first |refine zab rfl rfl ?_ ?_|refine zao rfl rfl ?_ ?_|refine zar rfl ?_ ?_);focus (first |omega|exact le_ rfl|((repeat' refine And.intro ?_ ?_)<;>omega)|((repeat' refine And.intro ?_ ?_)<;>first |rfl|exact Nat.le_refl _)))|refine zaB rfl ?_|fail)
      all_goals exact .of_eq rfl
    | true =>
      rw [if_pos rfl] at g3
      replace g3 : srcsP L = ((acc ++ [s]) ++ (srcsP (L.drop (i + 1))).1, (srcsP (L.drop (i + 1))).2) := g3.trans (by simp)
      have e := zkw acc s (chunk 9 (srcP s)) rfl
      have g4 : (acc ++ [s]).length = acc.length + 1 := by simp
      repeat' (first |refine zah (f := 54) rfl rfl Tryz.call54 rfl cS ?_|with_reducible (first |refine zag ?_|refine zaa ?_|refine zaf ?_|refine zad ?_|refine zai ?_|refine zae ?_|refine zaq ?_)|refine zab rfl rfl True.intro ?_|refine zak rfl ?_|((first |refine zac rfl ?_ ?_)<;>intro<;>try (first |(exfalso;omega)))|((first |refine zab rfl rfl ?_ ?_|refine zao rfl rfl ?_ ?_|refine zar rfl ?_ ?_);focus (first |omega|exact le_ rfl|((repeat' refine And.intro ?_ ?_)<;>omega)|((repeat' refine And.intro ?_ ?_)<;>first |omega|rfl|exact Nat.le_refl _|exact le_ rfl)))|fail)
      all_goals exact ⟨(i + 1, acc ++ [s]), ⟨by dsimp only; omega, by dsimp only; omega, g3⟩, by dsimp only; omega, ⟨rfl, rfl, rfl, rfl, rfl, rfl, trivial⟩, ⟨rfl, by rw [g4, ← e]; rfl, rfl, by rw [g4]; rfl, trivial⟩, rfl, by rw [hX]; simp⟩
  have hil' : ¬ (i : Int) < L.length := by omega
  have g5 : srcsP L = (acc, true) := by
    rw [g3, List.drop_eq_nil_of_le (by omega)]
    show (acc ++ [], true) = _
    rw [List.append_nil]
  rw [g5]
  clear g3 g5 hLL
  repeat' (first |refine znx (f := 55) (rdO x (cmN x) (cmB x)) [60] rfl (by decide) rfl rfl Tryz.call55 ⟨rfl, trivial⟩ rfl rfl rfl cE ?_|with_reducible (first |refine zag ?_|refine zaa ?_|refine zaf ?_|refine zad ?_|refine zaj ?_|refine zaz ?_|refine zaA ?_|refine zaD ?_)|refine zab rfl rfl True.intro ?_|((first |refine zac rfl ?_ ?_)<;>intro<;>try (first |(exfalso;omega)))|((first |refine zab rfl rfl ?_ ?_|refine zar rfl ?_ ?_);focus (first |exact le_ rfl|((repeat' refine And.intro ?_ ?_)<;>omega)|((repeat' refine And.intro ?_ ?_)<;>first |rfl|exact Nat.le_refl _)))|refine zaJ rfl ?_|with_reducible refine ⟨by kernel_rfl, ?_⟩|refine zaB rfl ?_|fail)
  all_goals exact .of_eq rfl
end Go.Proofs.YtcajofhafpkbdaaGreatDoor.Flow
