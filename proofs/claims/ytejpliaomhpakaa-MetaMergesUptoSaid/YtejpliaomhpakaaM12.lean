/- META: the plain law: what fits one list fits the merged one. -/
import Derived.Test.YtejpliaomhpakaaM8
import Derived.Test.YtejpliaomhpakaaM5
namespace Go.Proofs.Ytejpliaomhpakaa.Flow
open Go

theorem idxI_mem {n : Txt} : ∀ {l : List Txt}, 0 ≤ idxI n l ↔ n ∈ l
  | [] => by simp [idxI]
  | a :: r => by
    have ih := idxI_mem (n := n) (l := r)
    simp only [idxI, List.mem_cons]
    by_cases e : a = n
    · rw [if_pos e]; simp [e]
    · rw [if_neg e]
      have e' : ¬ n = a := fun h => e h.symm
      by_cases h : idxI n r < 0
      · rw [if_pos h]
        constructor
        · intro h1; omega
        · rintro (h1 | h1)
          · exact absurd h1 e'
          · have := ih.2 h1; omega
      · rw [if_neg h]
        constructor
        · intro _; exact .inr (ih.1 (by omega))
        · intro _; omega

theorem idxI_append {n : Txt} {r : List Txt} : ∀ {l : List Txt}, 0 ≤ idxI n l → idxI n (l ++ r) = idxI n l
  | [], h => by simp [idxI] at h
  | a :: l, h => by
    simp only [idxI, List.cons_append] at *
    by_cases e : a = n
    · rw [if_pos e, if_pos e]
    · rw [if_neg e] at *
      by_cases h2 : idxI n l < 0
      · rw [if_pos h2] at h; omega
      · rw [idxI_append (l := l) (by omega)]
        rw [if_neg e]

def names (l : List Fld) : List Txt := l.map (·.1)
def ids (a : List Vec) : List Txt := a.map (·.1)

theorem map_set_fst {β : Type} (l : List (Txt × β)) (i : Nat) (d : Txt × β) (x : β) : (l.set i ((l.getD i d).1, x)).map (·.1) = l.map (·.1) := by
  apply List.ext_getElem?
  intro j
  by_cases h : j = i
  · subst h
    by_cases hj : j < l.length
    · simp [List.getD_eq_getElem?_getD, hj]
    · rw [List.getElem?_eq_none (by simp; omega), List.getElem?_eq_none (by simp; omega)]
  · simp [List.getElem?_set_ne (Ne.symm h)]

theorem names_ff (l : List Fld) (f : Fld) : (∀ n, n ∈ names l → n ∈ names (ff l f)) ∧ f.1 ∈ names (ff l f) := by
  unfold ff fieldV names
  by_cases h : idxI f.1 (l.map (·.1)) < 0
  · rw [if_pos h]
    constructor
    · intro n hn; simp only [List.map_append, List.mem_append]; exact .inl hn
    · simp
  · have hm : f.1 ∈ l.map (·.1) := idxI_mem.1 (by omega)
    rw [if_neg h]
    split
    · exact ⟨fun n hn => hn, hm⟩
    · rw [map_set_fst]
      exact ⟨fun n hn => hn, hm⟩

theorem names_foldl : ∀ (fs l : List Fld), (∀ n, n ∈ names l → n ∈ names (fs.foldl ff l)) ∧ ∀ n, n ∈ names fs → n ∈ names (fs.foldl ff l)
  | [], l => ⟨fun n hn => hn, fun n hn => by simp [names] at hn⟩
  | f :: fs, l => by
    obtain ⟨h1, h2⟩ := names_ff l f
    obtain ⟨h3, h4⟩ := names_foldl fs (ff l f)
    refine ⟨fun n hn => h3 n (h1 n hn), fun n hn => ?_⟩
    simp only [names, List.map_cons, List.mem_cons] at hn
    rcases hn with rfl | hn
    · exact h3 _ h2
    · exact h4 n hn

theorem hasV_iff (a : List Vec) (id key : Txt) : (hasV a id key).2 = true ↔ 0 ≤ idxI id (ids a) ∧ key ∈ names (a.getD (idxI id (ids a)).toNat ([], [])).2 := by
  unfold hasV
  by_cases h : idxI id (a.map (·.1)) < 0
  · rw [if_pos h]
    constructor
    · intro h2; cases h2
    · intro h2; have : 0 ≤ idxI id (a.map (·.1)) := h2.1; omega
  · rw [if_neg h]
    show decide _ = true ↔ _
    rw [decide_eq_true_iff, idxI_mem]
    constructor
    · intro h2; exact ⟨by show 0 ≤ idxI id (a.map (·.1)); omega, h2⟩
    · intro h2; exact h2.2

/-- All that is found in a is found in m. -/
def Cov (m a : List Vec) : Prop := ∀ id, 0 ≤ idxI id (ids a) → 0 ≤ idxI id (ids m) ∧ ∀ key, (hasV a id key).2 = true → (hasV m id key).2 = true

theorem Cov.refl (a : List Vec) : Cov a a := fun _ h => ⟨h, fun _ h => h⟩
theorem Cov.trans {m n a : List Vec} (h1 : Cov m n) (h2 : Cov n a) : Cov m a := fun id h =>
  ⟨(h1 id (h2 id h).1).1, fun key hk => (h1 id (h2 id h).1).2 key ((h2 id h).2 key hk)⟩

theorem fits_cov {m a : List Vec} {l : List Lay} (h : Cov m a) (hf : fitsP a l) : fitsP m l := fun i hi => by
  obtain ⟨h1, h2⟩ := hf i hi
  exact ⟨(h _ h1).1, fun k hk q hq => (h _ h1).2 _ (h2 k hk q hq)⟩

theorem cov_outOf (out : List Vec) (v : Vec) : Cov (outOf out v) out := by
  unfold outOf
  split
  · intro id h
    have e : idxI id (ids (out ++ [(v.1, [])])) = idxI id (ids out) := by
      unfold ids
      rw [List.map_append]
      exact idxI_append h
    refine ⟨by rw [e]; exact h, fun key hk => ?_⟩
    rw [hasV_iff] at hk ⊢
    rw [e]
    refine ⟨h, ?_⟩
    have hlt := (idxI_lt id (ids out)).2
    have hlen : (ids out).length = out.length := by simp [ids]
    rw [hlen] at hlt
    have e2 : (out ++ [(v.1, [])]).getD (idxI id (ids out)).toNat ([], []) = out.getD (idxI id (ids out)).toNat ([], []) := by
      rw [List.getD_eq_getElem?_getD, List.getD_eq_getElem?_getD, List.getElem?_append_left (by omega)]
    rw [e2]
    exact hk.2
  · exact Cov.refl _

theorem ids_partOf (out : List Vec) (v : Vec) (m : Nat) : ids (partOf out v m) = ids (outOf out v) := map_set_fst _ _ _ _

theorem cov_part (out : List Vec) (v : Vec) (m : Nat) : Cov (partOf out v m) (outOf out v) := fun id h => by
  refine ⟨by rw [ids_partOf]; exact h, fun key hk => ?_⟩
  rw [hasV_iff] at hk ⊢
  rw [ids_partOf]
  refine ⟨h, ?_⟩
  by_cases e : (idxI id (ids (outOf out v))).toNat = atOf out v
  · rw [e] at hk ⊢
    rw [partOf_at]
    exact (names_foldl _ _).1 key hk.2
  · have e2 : (partOf out v m).getD (idxI id (ids (outOf out v))).toNat ([], []) = (outOf out v).getD (idxI id (ids (outOf out v))).toNat ([], []) := by
      unfold partOf
      rw [List.getD_eq_getElem?_getD, List.getElem?_set_ne (Ne.symm e), ← List.getD_eq_getElem?_getD]
    rw [e2]
    exact hk.2

theorem cov_add (out : List Vec) (v : Vec) : Cov (addV out v) out := (cov_part out v v.2.length).trans (cov_outOf out v)

theorem cov_foldl : ∀ (b out : List Vec), Cov (b.foldl addV out) out
  | [], out => Cov.refl _
  | v :: b, out => (cov_foldl b (addV out v)).trans (cov_add out v)

theorem merge_left (a b : List Vec) : Cov (mergeV a b) a := cov_foldl b a

theorem idxI_snoc' {n : Txt} : ∀ {l : List Txt}, idxI n l < 0 → idxI n (l ++ [n]) = l.length
  | [], _ => by simp [idxI]
  | a :: r, h => by
    simp only [idxI] at h
    by_cases e : a = n
    · rw [if_pos e] at h; omega
    · rw [if_neg e] at h
      have hr : idxI n r < 0 := by
        by_cases e2 : idxI n r < 0
        · exact e2
        · rw [if_neg e2] at h; omega
      have ih := idxI_snoc' (n := n) (l := r) hr
      simp only [List.cons_append, idxI, if_neg e, ih, List.length_cons]
      rw [if_neg (by omega)]
      omega

theorem at_ids (out : List Vec) (v : Vec) : idxI v.1 (ids (outOf out v)) = atOf out v := by
  unfold outOf atOf ids
  by_cases e : idxI v.1 (out.map (·.1)) < 0
  · rw [if_pos e, if_pos e, List.map_append]
    have := idxI_snoc' e
    rw [List.length_map] at this
    exact this
  · rw [if_neg e, if_neg e]
    omega

/-- What a layer has, the list has to which it was merged. -/
theorem add_has (out : List Vec) (v : Vec) : 0 ≤ idxI v.1 (ids (addV out v)) ∧ ∀ key, key ∈ names v.2 → (hasV (addV out v) v.1 key).2 = true := by
  have e : idxI v.1 (ids (addV out v)) = atOf out v := by
    unfold addV
    rw [ids_partOf, at_ids]
  refine ⟨by rw [e]; omega, fun key hk => ?_⟩
  rw [hasV_iff, e]
  refine ⟨by omega, ?_⟩
  have e2 : ((atOf out v : Nat) : Int).toNat = atOf out v := by omega
  rw [e2]
  unfold addV
  rw [partOf_at, List.take_length]
  exact (names_foldl _ _).2 key hk

theorem merge_right_aux : ∀ (b out : List Vec) (j : Nat), j < b.length → 0 ≤ idxI (b.getD j ([], [])).1 (ids (b.foldl addV out)) ∧ ∀ key, key ∈ names (b.getD j ([], [])).2 → (hasV (b.foldl addV out) (b.getD j ([], [])).1 key).2 = true
  | [], _, _, h => by simp at h
  | v :: b, out, 0, _ => by
    obtain ⟨h1, h2⟩ := add_has out v
    have h3 := cov_foldl b (addV out v) v.1 h1
    exact ⟨h3.1, fun key hk => h3.2 key (h2 key hk)⟩
  | v :: b, out, j + 1, h => by
    have := merge_right_aux b (addV out v) j (by simpa using h)
    simpa using this

theorem idxI_at {n : Txt} : ∀ {l : List Txt}, 0 ≤ idxI n l → l.getD (idxI n l).toNat [] = n
  | [], h => by simp [idxI] at h
  | a :: r, h => by
    simp only [idxI] at *
    by_cases e : a = n
    · rw [if_pos e]; simpa using e
    · rw [if_neg e] at *
      by_cases h2 : idxI n r < 0
      · rw [if_pos h2] at h; omega
      · rw [if_neg h2]
        have ih := idxI_at (n := n) (l := r) (by omega)
        have e2 : (idxI n r + 1).toNat = (idxI n r).toNat + 1 := by omega
        rw [e2]
        simpa using ih

theorem merge_right (a b : List Vec) : Cov (mergeV a b) b := fun id h => by
  have hlt := (idxI_lt id (ids b)).2
  have hlen : (ids b).length = b.length := by simp [ids]
  rw [hlen] at hlt
  have hid := idxI_at h
  have hm : (ids b).getD (idxI id (ids b)).toNat [] = (b.getD (idxI id (ids b)).toNat ([], [])).1 := map_at (fun v : Vec => v.1) b ([], []) _
  rw [hm] at hid
  obtain ⟨h1, h2⟩ := merge_right_aux b a (idxI id (ids b)).toNat (by omega)
  rw [hid] at h1 h2
  refine ⟨h1, fun key hk => h2 key ?_⟩
  rw [hasV_iff] at hk
  exact hk.2

theorem fits_left {a b : List Vec} {l : List Lay} (h : fitsP a l) : fitsP (mergeV a b) l := fits_cov (merge_left a b) h
theorem fits_right {a b : List Vec} {l : List Lay} (h : fitsP b l) : fitsP (mergeV a b) l := fits_cov (merge_right a b) h

/-! ### From Much to bounds -/
theorem scanO_all {step : Nat → Int → Option Int} {len B : Nat} {m : Int} : ∀ (k i : Nat) (n : Int), k = B - i → scanO step len B i n = some m → ∀ j, i ≤ j → j < len → j < B → ∃ u, step j u ≠ none := by
  intro k
  induction k with
  | zero => intro i n hk h j h1 h2 h3; omega
  | succ k ih =>
    intro i n hk h j h1 h2 h3
    have hi : i < len ∧ i < B := ⟨by omega, by omega⟩
    cases hs : step i n with
    | none => rw [scanO_stop hi.1 hi.2 hs] at h; cases h
    | some u =>
      rw [scanO_more hi.1 hi.2 hs] at h
      by_cases e : j = i
      · subst e; exact ⟨n, by rw [hs]; simp⟩
      · exact ih (i + 1) u (by omega) h j (by omega) h2 h3

theorem bnd_of_much {a : List Vec} (h : muchV a = false) (hs : smallV a) : bnd 25 25 a := by
  unfold muchV at h
  cases hsc : scanO (muchV1 a) a.length 30 0 0 with
  | none => rw [hsc] at h; cases h
  | some m =>
    rw [hsc] at h
    have hl : a.length ≤ 25 := by
      have : ¬ a.length > 25 := of_decide_eq_false h
      omega
    refine ⟨hl, fun v hv => ?_⟩
    obtain ⟨i, hi, rfl⟩ := List.getElem_of_mem hv
    have hg : a.getD i ([], []) = a[i] := by rw [List.getD_eq_getElem?_getD, List.getElem?_eq_getElem hi, Option.getD_some]
    have h1 := hs.2 i
    rw [hg] at h1
    obtain ⟨u, hu⟩ := scanO_all (step := muchV1 a) (len := a.length) (B := 30) (m := m) 30 0 0 rfl hsc i (Nat.zero_le _) hi (by omega)
    have h2 : a[i].2.length ≤ 25 := by
      unfold muchV1 at hu
      rw [hg] at hu
      cases hsc2 : scanO (fldW a[i].2) a[i].2.length 30 0 u with
      | none => rw [hsc2] at hu; exact absurd rfl hu
      | some m2 =>
        rw [hsc2] at hu
        by_cases hc : m2 > 1000 ∨ a[i].2.length > 25
        · simp only [if_pos hc] at hu; exact absurd rfl hu
        · omega
    refine ⟨h1.1, h2, fun f hf => ?_⟩
    obtain ⟨k, hk, rfl⟩ := List.getElem_of_mem hf
    have h3 := h1.2.2 k
    rw [List.getD_eq_getElem?_getD, List.getElem?_eq_getElem hk, Option.getD_some] at h3
    exact h3

end Go.Proofs.Ytejpliaomhpakaa.Flow
