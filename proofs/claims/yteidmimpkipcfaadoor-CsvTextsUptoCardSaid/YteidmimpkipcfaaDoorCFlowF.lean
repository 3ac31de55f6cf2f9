/-
  FLOW, PART F: STORES, LITERALS, APPEND.
-/
import Derived.Test.YteidmimpkipcfaaDoorCFlowE
import Derived.Deep.AppendSrc
namespace Go.Proofs.YteidmimpkipcfaaDoor.Flow

/-! ### Rows as lists of cells -/
def flat (z m : Nat) (c : Nat → Nat → Value) : List Value := (List.range (m * z)).map fun p => c (p / z) (p % z)

theorem flat_length (z m : Nat) (c : Nat → Nat → Value) : (flat z m c).length = m * z := by simp [flat]

theorem flat_at {z m i j : Nat} (c : Nat → Nat → Value) (hi : i < m) (hj : j < z) : (flat z m c)[i * z + j]? = some (c i j) := by
  have h1 : i * z + j < m * z := by
    have : (i + 1) * z ≤ m * z := Nat.mul_le_mul_right z hi
    rw [Nat.add_mul] at this
    omega
  have h2 : (i * z + j) / z = i := by
    rw [Nat.mul_comm, Nat.mul_add_div (by omega), Nat.div_eq_of_lt hj, Nat.add_zero]
  have h3 : (i * z + j) % z = j := by
    rw [Nat.mul_comm, Nat.mul_add_mod, Nat.mod_eq_of_lt hj]
  simp [flat, h1, h2, h3]

theorem flat_split {z m p : Nat} (h : p < m * z) : ∃ i j, p = i * z + j ∧ i < m ∧ j < z := by
  have hz : 0 < z := by
    rcases Nat.eq_zero_or_pos z with e | e
    · subst e; simp at h
    · exact e
  refine ⟨p / z, p % z, ?_, (Nat.div_lt_iff_lt_mul hz).2 h, Nat.mod_lt _ hz⟩
  rw [Nat.mul_comm]
  exact (Nat.div_add_mod p z).symm

theorem flat_oneCell {S : Cells} {w : World} {z m : Nat} {f : Nat → List D} {c : Nat → Nat → Value} (hl : ∀ i, i < m → (f i).length = z ∧ (f i).all D.plain = true)
    (hr : ∀ i j, i < m → j < z → Rel S w noRho ((f i).getD j .any) (c i j)) : ∀ u ∈ flat z m c, u.oneCell' = true := by
  intro u hu
  simp only [flat, List.mem_map, List.mem_range] at hu
  obtain ⟨p, hp, rfl⟩ := hu
  obtain ⟨i, j, he, hi, hj⟩ := flat_split hp
  have hz : 0 < z := by omega
  have h2 : p / z = i := by subst he; rw [Nat.mul_comm, Nat.mul_add_div (by omega), Nat.div_eq_of_lt hj, Nat.add_zero]
  have h3 : p % z = j := by subst he; rw [Nat.mul_comm, Nat.mul_add_mod, Nat.mod_eq_of_lt hj]
  rw [h2, h3]
  refine (hr i j hi hj).one (D.one_of_plain ?_)
  have := (hl i hi).2
  rw [List.all_eq_true] at this
  have hj' : j < (f i).length := by rw [(hl i hi).1]; exact hj
  refine this _ ?_
  simp only [List.getD_eq_getElem?_getD, List.getElem?_eq_getElem hj', Option.getD_some]
  exact List.getElem_mem hj'

section
variable {P : Program} {S : Cells} {w : World} {r : Rho}

theorem Rel.sl_congr {e m : Nat} {f f' : Nat → List D} {v : Value} (h : Rel S w r (.sl e m f) v) (he : ∀ i, i < m → f i = f' i) : Rel S w r (.sl e m f') v := by
  cases h with
  | sl _ _ _ _ a cap c hc hm hl hcell hr =>
    exact .sl _ e m f' a cap c hc hm (fun i hi => by rw [← he i hi]; exact hl i hi) hcell (fun i j hi hj => by rw [← he i hi]; exact hr i j hi hj)

/-- A slice over a row that lies in a block from its head on. -/
theorem rel_row {z N : Nat} {f : Nat → List D} {c : Nat → Nat → Value} {g cap : Nat} {cur : Array Value} {e : TypeId} {fr : Nat × Nat} (hg : w.heap[g]? = some (.cells cur e fr)) (hc : N ≤ cap) (hm : cap ≤ maxLen)
    (hcur : ∀ i j, i < N → j < z → cur[i * z + j]? = some (c i j)) (hS : ∀ i j, i < N → j < z → S g (i * z + j))
    (hl : ∀ i, i < N → (f i).length = z ∧ (f i).all D.plain = true) (hr : ∀ i j, i < N → j < z → Rel S w noRho ((f i).getD j .any) (c i j)) :
    Rel S w r (.sl z N f) (.slice (some ⟨g, 0, none⟩) N cap) :=
  .sl _ z N f _ cap c hc hm hl (fun i j hi hj => ⟨g, 0, rfl, by rw [Nat.zero_add]; exact hS i j hi hj, by rw [Nat.zero_add, cell_of_row w g _ cur e fr hg]; exact hcur i j hi hj⟩) hr

end

theorem getD_arr {α : Type} (l : List α) (j : Nat) (x : α) : l.toArray.getD j x = l.getD j x := by simp [Array.getD_eq_getD_getElem?, List.getD_eq_getElem?_getD]

/-! ### Filling -/
theorem foldl_put (off : Nat) : ∀ (l : List Value) (k : Nat) (cs : Array Value), off + k + l.length ≤ cs.size →
    (l.zipIdx k).foldl (fun cs (x : Value × Nat) => cs.setIfInBounds (off + x.2) x.1) cs = (cs.toList.take (off + k) ++ l ++ cs.toList.drop (off + k + l.length)).toArray
  | [], k, cs, _ => by simp
  | x :: l, k, cs, h => by
    simp only [List.zipIdx_cons, List.foldl_cons]
    rw [foldl_put off l (k + 1) _ (by simp at h ⊢; omega)]
    have e := list_seg_step cs.toList (off + k) x l (by simp at h ⊢; omega)
    congr 1
    simpa [Array.toList_setIfInBounds, Nat.add_assoc] using e

section
variable {P : Program} {S : Cells} {w : World} {r : Rho}

/-- Parts of a literal, told one by one. -/
inductive Parts (S : Cells) (w : World) (r : Rho) : List (Nat × D) → List (Nat × Value) → Prop
  | nil : Parts S w r [] []
  | cons (i : Nat) (d : D) (v : Value) (ds : List (Nat × D)) (vs : List (Nat × Value)) (h : Rel S w r d v) (t : Parts S w r ds vs) : Parts S w r ((i, d) :: ds) ((i, v) :: vs)

theorem parts_of {e : Operand → D} {ρ : Operand → Value} : ∀ (l : List (Nat × Operand)), (∀ i x, (i, x) ∈ l → Rel S w r (e x) (ρ x)) → Parts S w r (evParts e l) (l.map fun (i, x) => (i, ρ x))
  | [], _ => .nil
  | (i, x) :: l, h => .cons i _ _ _ _ (h i x (by simp)) (parts_of l (fun j y hy => h j y (by simp [hy])))

theorem fill_sound {place : Nat → Option (Nat × Nat)} : ∀ {ds : List (Nat × D)} {vs : List (Nat × Value)} {cs cs' : List D} {cells : Array Value}, Parts S w r ds vs → fillD place cs ds = some cs' →
    cells.size = cs.length → (∀ j, j < cs.length → Rel S w r (cs.getD j .any) (cells.getD j undef)) →
    ∃ cells', Instr.fill place cells vs = some cells' ∧ cells'.size = cs'.length ∧ cs'.length = cs.length ∧ ∀ j, j < cs'.length → Rel S w r (cs'.getD j .any) (cells'.getD j undef)
  | _, _, cs, cs', cells, .nil, h, hn, hr => by
    simp only [fillD, Option.some.injEq] at h
    subst h
    exact ⟨cells, rfl, hn, rfl, hr⟩
  | _, _, cs, cs', cells, .cons i d v ds vs hd t, h, hn, hr => by
    simp only [fillD] at h
    cases hp : place i with
    | none => simp only [hp] at h; cases h
    | some q =>
      obtain ⟨off, size⟩ := q
      simp only [hp] at h
      cases hb : (Nat.beq d.cells.length size && Nat.ble (off + size) cs.length && d.solid) with
      | false => simp only [hb] at h; cases h
      | true =>
        simp only [hb] at h
        simp only [Bool.and_eq_true, Nat.ble_eq] at hb
        obtain ⟨⟨h1', h2⟩, h3⟩ := hb
        have h1 := Nat.eq_of_beq_eq_true h1'
        obtain ⟨hv, hvr⟩ := rel_cells hd h3
        have hfit : off + d.cells.length ≤ cs.length := by omega
        have hlen := length_put cs d.cells off hfit
        have e : (v.cells.zipIdx.foldl (fun cs (x : Value × Nat) => cs.setIfInBounds (off + x.2) x.1) cells) = (cells.toList.take off ++ v.cells.toList ++ cells.toList.drop (off + v.cells.toList.length)).toArray := by
          rw [← Array.foldl_toList, Array.toList_zipIdx]
          have := foldl_put off v.cells.toList 0 cells (by simp; omega)
          simpa using this
        have hvl : v.cells.toList.length = d.cells.length := by simpa using hv
        have hfit' : off + v.cells.toList.length ≤ cells.toList.length := by simp; omega
        have hlen' := length_put cells.toList v.cells.toList off hfit'
        obtain ⟨cells', g1, g2, g3, g4⟩ := fill_sound (cells := (cells.toList.take off ++ v.cells.toList ++ cells.toList.drop (off + v.cells.toList.length)).toArray) t h
          (by
            unfold putCells
            rw [hlen, List.size_toArray, hlen']
            simpa using hn)
          (fun j hj => by
            unfold putCells at hj ⊢
            rw [hlen] at hj
            rw [getD_put _ _ _ _ _ hfit, getD_arr, getD_put _ _ _ _ _ hfit', hvl]
            by_cases hc : off ≤ j ∧ j < off + d.cells.length
            · rw [if_pos hc, if_pos hc]
              have := hvr (j - off) (by omega)
              simpa [Array.getD_eq_getD_getElem?, List.getD_eq_getElem?_getD] using this
            · rw [if_neg hc, if_neg hc]
              have := hr j hj
              simpa [Array.getD_eq_getD_getElem?, List.getD_eq_getElem?_getD] using this)
        refine ⟨cells', ?_, g2, ?_, g4⟩
        · simp only [Instr.fill, hp]
          rw [if_neg (by simp; omega)]
          have e' : (v.cells.zipIdx.foldl (fun cs (c, j) => cs.setIfInBounds (off + j) c) cells) = (cells.toList.take off ++ v.cells.toList ++ cells.toList.drop (off + v.cells.toList.length)).toArray := e
          rw [e']
          exact g1
        · rw [g3]
          unfold putCells
          exact hlen
end
end Go.Proofs.YteidmimpkipcfaaDoor.Flow
