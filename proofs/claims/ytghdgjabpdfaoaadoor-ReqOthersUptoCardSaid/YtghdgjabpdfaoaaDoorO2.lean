/- The texts FlowG, FlowH, FlowI, FlowJ, FlowK, one behind the other. -/
import Derived.Test.YtghdgjabpdfaoaaDoorO1
/-
  FLOW, PART G: STORES, LITERALS, APPEND, CONVERSIONS.
-/
namespace Go.Proofs.YtghdgjabpdfaoaaDoor.Flow

section
variable {P : Program} {X : Ctx} {n : Nat} {o : Oper} {F : Nat → D} {O O' : Nat → Option Own}

/-- A store into a variable of the call's own. -/
theorem store_ok {w : World} {S : Cells} {r : Rho} {t : TypeId} {z : Nat × Bool} {k off : Nat} {cs : List D} {d : D} {va vx : Value} (hH : Hist X w S) (hI : Inv X w S r O)
    (ha : Rel S w r (.pv k off) va) (hx : Rel S w r d vx) (hz : szOf P t = some z) (hk : O k = some (.var cs)) (h1 : d.cells.length = z.1) (h2 : off + d.cells.length ≤ cs.length)
    (h3 : d.solid = true) (h4 : d.cells.all D.one = true) :
    ∃ w' , (Instr.storeAt t va vx).run P w = .ok () w' ∧ Hist X w' S ∧ Inv X w' S r (updO O [(k, .var (putCells cs off d.cells))]) ∧ (∀ b o, S b o → w'.cell? ⟨b, o, none⟩ = w.cell? ⟨b, o, none⟩) := by
  cases ha with
  | pv _ _ _ b hb =>
    obtain ⟨b', cur, e, g1, g2, g3, g4, g5⟩ := hI.obj k _ hk
    rw [hb] at g1
    cases g1
    obtain ⟨hv, hvr⟩ := rel_cells hx h3
    have hs := run_sizeOf (w := w) hz
    have hvl : vx.cells.toList.length = d.cells.length := by simpa using hv
    have h1c : ∀ v ∈ vx.cells.toList, v.oneCell' = true := by
      intro v hv'
      obtain ⟨j, hj, he⟩ := List.mem_iff_getElem.1 hv'
      rw [hvl] at hj
      have hrj := hvr j hj
      have hone : (d.cells.getD j .any).one = true := by
        rw [List.all_eq_true] at h4
        refine h4 _ ?_
        simp only [List.getD_eq_getElem?_getD, List.getElem?_eq_getElem hj, Option.getD_some]
        exact List.getElem_mem hj
      have := hrj.one hone
      rw [← he]
      have hj' : j < vx.cells.size := by omega
      simpa [Array.getD_eq_getD_getElem?, hj'] using this
    have hst := run_storeCells_at P b off e vx.cells.toList 0 cur w g2 (by rw [hvl]; omega) h1c
    simp only [Nat.add_zero] at hst
    refine ⟨w.setRow b (cur.toList.take off ++ vx.cells.toList ++ cur.toList.drop (off + vx.cells.toList.length)).toArray, ?_, ?_, ?_, ?_⟩
    · simp only [Instr.storeAt, Instr.sureAddr, storeVar, Sem.run_bind, Sem.run_pure, Result.andThen_ok, hs]
      rw [if_neg (by omega)]
      exact hst
    · exact hH.chg (Chg.setRow w S b cur _ e (0, 0) g2 (fun o ho => absurd ho (g5 o))) (fun b' hb' => by cases hb'; exact hI.low k _ b hb rfl) (fun _ _ h => h) (fun _ _ h => .inl h)
    · refine hI.put (Chg.setRow w S b cur _ e (0, 0) g2 (fun o ho => absurd ho (g5 o))) (fun _ _ h => h) (RhoLe.refl r) k _ (.blk b) ?_ hb (fun _ _ => rfl)
        (fun b' hb' => .inr ⟨_, hb, hb'⟩) (fun b' hb' => ⟨_, hb, by cases hb'; rfl⟩) (fun _ _ h => .inl h)
      have hlen := length_put cs d.cells off h2
      have hfit' : off + vx.cells.toList.length ≤ cur.toList.length := by simp; omega
      have hlen' := length_put cur.toList vx.cells.toList off hfit'
      have hc := (Chg.setRow w S b cur (cur.toList.take off ++ vx.cells.toList ++ cur.toList.drop (off + vx.cells.toList.length)).toArray e (0, 0) g2 (fun o ho => absurd ho (g5 o))).cell
      refine ⟨b, _, e, hb, setRow_heap w b cur _ e (0, 0) g2, ?_, fun j hj => ?_, g5⟩
      · unfold putCells
        rw [hlen, List.size_toArray, hlen']
        simpa using g3
      · unfold putCells at hj ⊢
        rw [hlen] at hj
        rw [getD_put _ _ _ _ _ h2, getD_arr, getD_put _ _ _ _ _ hfit', hvl]
        by_cases hcj : off ≤ j ∧ j < off + d.cells.length
        · rw [if_pos hcj, if_pos hcj]
          have hj2 : j - off < d.cells.length := by omega
          have h5 := hvr (j - off) hj2
          refine ⟨?_, ?_⟩
          · have := h5.mono (fun _ _ h => h) hc r (RhoLe.refl r)
            rw [hvl] at this
            simpa [Array.getD_eq_getD_getElem?, List.getD_eq_getElem?_getD] using this
          · rw [List.all_eq_true] at h4
            refine h4 _ ?_
            simp only [List.getD_eq_getElem?_getD, List.getElem?_eq_getElem hj2, Option.getD_some]
            exact List.getElem_mem hj2
        · rw [if_neg hcj, if_neg hcj]
          have h5 := g4 j hj
          refine ⟨?_, h5.2⟩
          have := h5.1.mono (fun _ _ h => h) hc r (RhoLe.refl r)
          rw [hvl] at this
          simpa [Array.getD_eq_getD_getElem?, List.getD_eq_getElem?_getD] using this
    · exact (Chg.setRow w S b cur _ e (0, 0) g2 (fun o ho => absurd ho (g5 o))).cell

/-- A store into an element of a row of the call's own. -/
theorem storeA_ok {w : World} {S : Cells} {r : Rho} {t : TypeId} {z : Nat × Bool} {k e len i off : Nat} {el : TypeId} {L : Nat} {f : Nat → List D} {d : D} {va vx : Value} (hH : Hist X w S) (hI : Inv X w S r O)
    (ha : Rel S w r (.ap k e len i off) va) (hx : Rel S w r d vx) (hz : szOf P t = some z) (hk : O k = some (.arr el e L f)) (hlen : len = L) (hi : i < L) (h1 : d.cells.length = z.1) (h2 : off + d.cells.length ≤ e)
    (h3 : d.solid = true) (h4 : d.cells.all D.plain = true) :
    ∃ w' , (Instr.storeAt t va vx).run P w = .ok () w' ∧ Hist X w' S ∧ Inv X w' S r (updO O [(k, .arr el e L (putF f i (putCells (f i) off d.cells)))]) ∧ (∀ b o, S b o → w'.cell? ⟨b, o, none⟩ = w.cell? ⟨b, o, none⟩) := by
  subst hlen
  cases ha with
  | ap _ _ _ _ _ _ a tv L' hk' hL hta hag =>
    obtain ⟨tv', g1, g2⟩ := hI.obj k _ hk
    rw [hk'] at g1
    cases g1
    obtain ⟨g, cap, htv, rfl⟩ := hta rfl
    rcases g2 with ⟨e1, e2⟩ | ⟨g', cap', cur, e1, g2, g3, g4, g5, g6, g7, g8⟩
    · omega
    rw [htv] at e1
    cases e1
    obtain ⟨hv, hvr⟩ := rel_cells hx h3
    have hs := run_sizeOf (w := w) hz
    have hvl : vx.cells.toList.length = d.cells.length := by simpa using hv
    have hpl : ∀ j, j < d.cells.length → (d.cells.getD j .any).plain = true := fun j hj => by
      rw [List.all_eq_true] at h4
      refine h4 _ ?_
      simp only [List.getD_eq_getElem?_getD, List.getElem?_eq_getElem hj, Option.getD_some]
      exact List.getElem_mem hj
    have h1c : ∀ v ∈ vx.cells.toList, v.oneCell' = true := by
      intro v hv'
      obtain ⟨j, hj, he⟩ := List.mem_iff_getElem.1 hv'
      rw [hvl] at hj
      have := (hvr j hj).one (D.one_of_plain (hpl j hj))
      rw [← he]
      have hj' : j < vx.cells.size := by omega
      simpa [Array.getD_eq_getD_getElem?, hj'] using this
    have hfl := (g6 i hi).1
    have hbound : i * e + e ≤ cap * e := by
      have : (i + 1) * e ≤ cap * e := Nat.mul_le_mul_right e (by omega)
      rw [Nat.add_mul] at this
      omega
    have hst := run_storeCells_at P g (i * e + off) el vx.cells.toList 0 cur w g2 (by rw [hvl]; omega) h1c
    simp only [Nat.add_zero] at hst
    have hb0 : (Loc.row (.slice (some ⟨g, 0, none⟩) len cap) len).block = some g := rfl
    have hch := Chg.setRow w S g cur (cur.toList.take (i * e + off) ++ vx.cells.toList ++ cur.toList.drop (i * e + off + vx.cells.toList.length)).toArray el (0, 0) g2 (fun o ho => absurd ho (g8 o))
    refine ⟨w.setRow g (cur.toList.take (i * e + off) ++ vx.cells.toList ++ cur.toList.drop (i * e + off + vx.cells.toList.length)).toArray, ?_, ?_, ?_, hch.cell⟩
    · simp only [Instr.storeAt, Instr.sureAddr, storeVar, Sem.run_bind, Sem.run_pure, Result.andThen_ok, hs]
      rw [if_neg (by omega)]
      exact hst
    · exact hH.chg hch (fun b' hb' => by cases hb'; exact hI.low k _ g (htv ▸ hk') hb0) (fun _ _ h => h) (fun _ _ h => .inl h)
    · refine hI.put hch (fun _ _ h => h) (RhoLe.refl r) k _ (.row tv len) ?_ hk' (fun _ _ => rfl)
        (fun b' hb' => .inr ⟨_, hk', hb'⟩) (fun b' hb' => ⟨_, htv ▸ hk', by cases hb'; rfl⟩) (fun _ _ h => .inl h)
      have hfit' : i * e + off + vx.cells.toList.length ≤ cur.toList.length := by simp; omega
      have hlen' := length_put cur.toList vx.cells.toList (i * e + off) hfit'
      have hfit2 : off + d.cells.length ≤ (f i).length := by omega
      refine ⟨tv, hk', .inr ⟨g, cap, _, htv, setRow_heap w g cur _ el (0, 0) g2, g3, g4, ?_, fun i' hi' => ?_, fun i' j hi' hj => ?_, g8⟩⟩
      · rw [List.size_toArray, hlen']
        simpa using g5
      · unfold putF
        by_cases hii : i' = i
        · rw [if_pos hii]
          unfold putCells
          refine ⟨by rw [length_put _ _ _ hfit2]; exact hfl, ?_⟩
          rw [List.all_eq_true] at h4 ⊢
          have g6' := (g6 i hi).2
          rw [List.all_eq_true] at g6'
          intro x hx'
          simp only [List.mem_append] at hx'
          rcases hx' with (hx' | hx') | hx'
          · exact g6' x (List.mem_of_mem_take hx')
          · exact h4 x hx'
          · exact g6' x (List.mem_of_mem_drop hx')
        · rw [if_neg hii]; exact g6 i' hi'
      · rw [getD_arr, getD_put _ _ _ _ _ hfit', hvl]
        have hold := (g7 i' j hi' hj).mono (fun _ _ h => h) hch.cell noRho (RhoLe.refl _)
        rw [hvl] at hold
        unfold putF
        by_cases hii : i' = i
        · subst hii
          rw [if_pos rfl]
          unfold putCells
          rw [getD_put _ _ _ _ _ hfit2]
          by_cases hcj : off ≤ j ∧ j < off + d.cells.length
          · rw [if_pos hcj, if_pos (by omega)]
            have hj2 : j - off < d.cells.length := by omega
            have h5 := ((hvr (j - off) hj2).plain (hpl _ hj2) noRho).mono (fun _ _ h => h) hch.cell noRho (RhoLe.refl _)
            rw [show i' * e + j - (i' * e + off) = j - off by omega]
            rw [hvl] at h5
            simpa [Array.getD_eq_getD_getElem?, List.getD_eq_getElem?_getD] using h5
          · rw [if_neg hcj, if_neg (by omega)]
            simpa [Array.getD_eq_getD_getElem?, List.getD_eq_getElem?_getD] using hold
        · rw [if_neg hii, if_neg ?_]
          · simpa [Array.getD_eq_getD_getElem?, List.getD_eq_getElem?_getD] using hold
          · intro hc
            rcases Nat.lt_or_gt_of_ne hii with h | h
            · have : (i' + 1) * e ≤ i * e := Nat.mul_le_mul_right e h
              rw [Nat.add_mul] at this
              omega
            · have : (i + 1) * e ≤ i' * e := Nat.mul_le_mul_right e h
              rw [Nat.add_mul] at this
              omega

/-- A row object that is new or has grown. -/
theorem row_ok (ar : Bool) {w w' : World} {S : Cells} {r : Rho} {g : Option Nat} {k : Nat} {el : TypeId} {z N cap blk : Nat} {cur : Array Value} {f : Nat → List D} {c : Nat → Nat → Value} (hH : Hist X w S) (hI : Inv X w S r O)
    (hc : Chg w w' S g) (hg : ∀ b, g = some b → ∃ l, r k = some l ∧ l.block = some b)
    (hnew : (w.heap.size ≤ blk ∧ blk < w'.heap.size ∧ X.w0.heap.size ≤ blk) ∨ (∃ l, r k = some l ∧ l.block = some blk ∧ blk < w'.heap.size))
    (hle : RhoLe r (updR r k (.row (.slice (some ⟨blk, 0, none⟩) N cap) N)))
    (hb : w'.heap[blk]? = some (.cells cur el (0, 0))) (hN : N ≤ cap) (hm : cap ≤ maxLen) (hsz : cur.size = cap * z)
    (hcur : ∀ i j, i < N → j < z → cur[i * z + j]? = some (c i j)) (hold : ∀ o, (ar = true ∨ N * z ≤ o) → ¬ S blk o)
    (hl : ∀ i, i < N → (f i).length = z ∧ (f i).all D.plain = true) (hr : ∀ i j, i < N → j < z → Rel S w noRho ((f i).getD j .any) (c i j)) :
    ∃ S' r', Rel S' w' r' (mkH ar k z N f) (.slice (some ⟨blk, 0, none⟩) N cap) ∧ Hist X w' S' ∧ Inv X w' S' r' (updO O [(k, mkO ar el z N f)]) ∧ (∀ b o, S b o → S' b o) ∧
      (∀ b o, S b o → w'.cell? ⟨b, o, none⟩ = w.cell? ⟨b, o, none⟩) ∧ RhoLe r r' := by
  have hk0 : updR r k (.row (.slice (some ⟨blk, 0, none⟩) N cap) N) k = some (.row (.slice (some ⟨blk, 0, none⟩) N cap) N) := by simp [updR]
  have hlow : X.w0.heap.size ≤ blk ∨ X.L blk := by
    rcases hnew with ⟨_, _, h⟩ | ⟨l, h1, h2, _⟩
    · exact .inl h
    · exact hI.low k l blk h1 h2
  have hblt : blk < w'.heap.size := by
    rcases hnew with ⟨_, h, _⟩ | ⟨_, _, _, h⟩ <;> exact h
  have hmono : ∀ d v, Rel S w noRho d v → Rel (fun b o => S b o ∨ (b = blk ∧ o < N * z)) w' noRho d v := fun d v h => h.mono (fun _ _ h => .inl h) hc.cell noRho (RhoLe.refl _)
  have hblk : ∀ b, (Loc.row (.slice (some ⟨blk, 0, none⟩) N cap) N).block = some b → (w.heap.size ≤ b ∧ (X.w0.heap.size ≤ b ∨ X.L b)) ∨ ∃ l, r k = some l ∧ l.block = some b := fun b hb' => by
    simp only [Loc.block, Option.some.injEq] at hb'
    subst hb'
    rcases hnew with ⟨h1, _, h3⟩ | ⟨l, h1, h2, _⟩
    · exact .inl ⟨h1, .inl h3⟩
    · exact .inr ⟨l, h1, h2⟩
  cases ar with
  | true =>
    refine ⟨S, updR r k (.row (.slice (some ⟨blk, 0, none⟩) N cap) N), .ah _ k z N cap _ _ N hk0 (Nat.le_refl _) (fun _ => .inl rfl) (fun _ => ⟨blk, rfl⟩), ?_, ?_, fun _ _ h => h, hc.cell, hle⟩
    · refine hH.chg hc (fun b hb => ?_) (fun _ _ h => h) (fun b o h => .inl h)
      obtain ⟨l, h1, h2⟩ := hg b hb
      exact hI.low k l b h1 h2
    · refine hI.put hc (fun _ _ h => h) hle k _ (.row (.slice (some ⟨blk, 0, none⟩) N cap) N) ?_ hk0 (fun j hj => by simp [updR, hj]) hblk hg (fun b o h => .inl h)
      refine ⟨_, hk0, .inr ⟨blk, cap, cur, rfl, hb, hN, hm, hsz, hl, fun i j hi hj => ?_, fun o => hold o (.inl rfl)⟩⟩
      rw [Array.getD_eq_getD_getElem?, hcur i j hi hj]
      exact (hr i j hi hj).mono (fun _ _ h => h) hc.cell noRho (RhoLe.refl _)
  | false =>
    refine ⟨fun b o => S b o ∨ (b = blk ∧ o < N * z), updR r k (.row (.slice (some ⟨blk, 0, none⟩) N cap) N), ?_, ?_, ?_, fun _ _ h => .inl h, hc.cell, hle⟩
    · refine .gs _ k z N f _ _ N (rel_row (c := c) hb hN hm hcur (fun i j hi hj => .inr ⟨rfl, ?_⟩) hl (fun i j hi hj => hmono _ _ (hr i j hi hj))) hk0 (Nat.le_refl _) (fun _ => .inl rfl)
      have : (i + 1) * z ≤ N * z := Nat.mul_le_mul_right z hi
      rw [Nat.add_mul] at this
      omega
    · refine hH.chg hc (fun b hb => ?_) (fun _ _ h => .inl h) (fun b o h => ?_)
      · obtain ⟨l, h1, h2⟩ := hg b hb
        exact hI.low k l b h1 h2
      · rcases h with h | ⟨rfl, _⟩
        · exact .inl h
        · exact .inr ⟨hlow, hblt⟩
    · refine hI.put hc (fun _ _ h => .inl h) hle k _ (.row (.slice (some ⟨blk, 0, none⟩) N cap) N) ?_ hk0 (fun j hj => by simp [updR, hj]) hblk hg (fun b o h => ?_)
      · refine ⟨_, hk0, .inr ⟨blk, cap, cur, rfl, hb, hN, hm, hsz, fun o ho h => ?_⟩⟩
        rcases h with h | ⟨_, h⟩
        · exact hold o (.inr ho) h
        · omega
      · rcases h with h | ⟨rfl, _⟩
        · exact .inl h
        · exact .inr (.inl rfl)

theorem grow_fits {n m cap by' : Nat} (h : cap < n + m) (hb : (n + m) * by' ≤ 140737488355328) : Builtin.nextslicecap (n + m) cap * by' ≤ 281474976710656 := growslice_fits h hb

/-- The cells of a slice that is told by data. -/
theorem sl_cells {S : Cells} {w : World} {r : Rho} {z m : Nat} {f : Nat → List D} {v : Value} (h : Rel S w r (.sl z m f) v) :
    ∃ (a : Option Addr) (cap : Nat) (c : Nat → Nat → Value), v = .slice a m cap ∧ m ≤ cap ∧ cap ≤ maxLen ∧ (∀ i, i < m → (f i).length = z ∧ (f i).all D.plain = true) ∧ (∀ i j, i < m → j < z → Rel S w noRho ((f i).getD j .any) (c i j)) ∧
      (∀ i j, i < m → j < z → ∃ b o, a = some ⟨b, o, none⟩ ∧ S b (o + i * z + j) ∧ w.cell? ⟨b, o + i * z + j, none⟩ = some (c i j)) := by
  cases h with
  | sl _ _ _ _ a cap c hc hm hl hcell hr => exact ⟨a, cap, c, rfl, hc, hm, hl, hr, hcell⟩

/-- Cells in a list of their own. -/
theorem flat_cells {w : World} {S : Cells} {z m : Nat} {c : Nat → Nat → Value} {ad : Addr} (hcell : ∀ i j, i < m → j < z → ∃ b o, some ad = some (⟨b, o, none⟩ : Addr) ∧ S b (o + i * z + j) ∧ w.cell? ⟨b, o + i * z + j, none⟩ = some (c i j)) :
    ∀ j u, (flat z m c)[j]? = some u → w.cell? (ad.add j) = some u := by
  intro p u hu
  have hp : p < m * z := by
    have := (List.getElem?_eq_some_iff.1 hu).1
    rwa [flat_length] at this
  obtain ⟨i, j, rfl, hi, hj⟩ := flat_split hp
  rw [flat_at c hi hj] at hu
  cases hu
  obtain ⟨b, o, he, _, hc⟩ := hcell i j hi hj
  cases he
  rw [Addr.add_lit]
  rw [Nat.add_assoc] at hc
  exact hc

theorem cat_at {z n m i j : Nat} {c1 c2 : Nat → Nat → Value} (rest : List Value) (hi : i < n + m) (hj : j < z) :
    (flat z n c1 ++ flat z m c2 ++ rest)[i * z + j]? = some (if i < n then c1 i j else c2 (i - n) j) := by
  by_cases h : i < n
  · have h1 : i * z + j < (flat z n c1).length := by
      rw [flat_length]
      have : (i + 1) * z ≤ n * z := Nat.mul_le_mul_right z h
      rw [Nat.add_mul] at this
      omega
    rw [List.append_assoc, List.getElem?_append_left h1, flat_at c1 h hj, if_pos h]
  · have hi' : i - n < m := by omega
    have e : i * z + j = n * z + ((i - n) * z + j) := by
      have : i * z = n * z + (i - n) * z := by rw [← Nat.add_mul]; congr 1; omega
      omega
    have h2 : (i - n) * z + j < (flat z m c2).length := by
      rw [flat_length]
      have : (i - n + 1) * z ≤ m * z := Nat.mul_le_mul_right z hi'
      rw [Nat.add_mul] at this
      omega
    rw [e, List.append_assoc, List.getElem?_append_right (by rw [flat_length]; omega), flat_length]
    rw [show n * z + ((i - n) * z + j) - n * z = (i - n) * z + j by omega]
    rw [List.getElem?_append_left h2, flat_at c2 hi' hj, if_neg h]

theorem cat_data {z n m : Nat} {S : Cells} {w : World} {f g : Nat → List D} {c1 c2 : Nat → Nat → Value}
    (hl : ∀ i, i < n → (f i).length = z ∧ (f i).all D.plain = true) (hr : ∀ i j, i < n → j < z → Rel S w noRho ((f i).getD j .any) (c1 i j))
    (hl2 : ∀ i, i < m → (g i).length = z ∧ (g i).all D.plain = true) (hr2 : ∀ i j, i < m → j < z → Rel S w noRho ((g i).getD j .any) (c2 i j)) :
    (∀ i, i < n + m → (catF n f m g i).length = z ∧ (catF n f m g i).all D.plain = true) ∧
    (∀ i j, i < n + m → j < z → Rel S w noRho ((catF n f m g i).getD j .any) (if i < n then c1 i j else c2 (i - n) j)) := by
  refine ⟨fun i hi => ?_, fun i j hi hj => ?_⟩
  · unfold catF
    by_cases h : i < n
    · rw [if_pos h]; exact hl i h
    · rw [if_neg h, if_pos hi]; exact hl2 (i - n) (by omega)
  · unfold catF
    by_cases h : i < n
    · rw [if_pos h, if_pos h]; exact hr i j h hj
    · rw [if_neg h, if_pos hi, if_neg h]; exact hr2 (i - n) j (by omega) hj

theorem zeroCells_size (z : Array Value) (n : Nat) : (Builtin.zeroCells z n).size = n * z.size := by simp [Builtin.zeroCells]

/-- What a row of the call's own is, of either kind. -/
theorem mkO_obj {ar : Bool} {S : Cells} {w : World} {r : Rho} {k : Nat} {el : TypeId} {z L : Nat} {f : Nat → List D} (h : ObjOk S w r k (mkO ar el z L f)) : ∃ tv, r k = some (.row tv L) ∧ ((tv = .slice none 0 0 ∧ L = 0) ∨
      ∃ g cap cur, tv = .slice (some ⟨g, 0, none⟩) L cap ∧ w.heap[g]? = some (.cells cur el (0, 0)) ∧ L ≤ cap ∧ cap ≤ maxLen ∧ cur.size = cap * z ∧ ∀ o, (ar = true ∨ L * z ≤ o) → ¬ S g o) := by
  cases ar with
  | true =>
    obtain ⟨tv, h1, h2⟩ := h
    refine ⟨tv, h1, ?_⟩
    rcases h2 with h2 | ⟨g, cap, cur, h2, h3, h4, h5, h6, _, _, h7⟩
    · exact .inl h2
    · exact .inr ⟨g, cap, cur, h2, h3, h4, h5, h6, fun o _ => h7 o⟩
  | false =>
    obtain ⟨tv, h1, h2⟩ := h
    refine ⟨tv, h1, ?_⟩
    rcases h2 with h2 | ⟨g, cap, cur, h2, h3, h4, h5, h6, h7⟩
    · exact .inl h2
    · exact .inr ⟨g, cap, cur, h2, h3, h4, h5, h6, fun o h => h7 o (by
        rcases h with h | h
        · cases h
        · exact h)⟩

theorem first_cells {w : World} {z L cap : Nat} {ax : Option Addr} {c1 : Nat → Nat → Value} (hz : 0 < z) (hcell : ∀ i j, i < L → j < z → ∃ b o, ax = some ⟨b, o, none⟩ ∧ w.cell? ⟨b, o + i * z + j, none⟩ = some (c1 i j)) :
    (Builtin.firstCells z L (.slice ax L cap)).run P w = .ok (flat z L c1).toArray w := by
  cases ax with
  | none =>
    rw [run_firstCells_none]
    rcases Nat.eq_zero_or_pos L with rfl | h
    · simp [flat]
    · obtain ⟨b, o, h1, _⟩ := hcell 0 0 h hz
      cases h1
  | some ad =>
    refine run_firstCells_some w z L ad L cap _ (flat_length ..) (fun p u hu => ?_)
    have hp : p < L * z := by
      have := (List.getElem?_eq_some_iff.1 hu).1
      rwa [flat_length] at this
    obtain ⟨i, j, rfl, hi, hj⟩ := flat_split hp
    rw [flat_at c1 hi hj] at hu
    cases hu
    obtain ⟨b, o, he, hc⟩ := hcell i j hi hj
    cases he
    rw [Addr.add_lit]
    rw [Nat.add_assoc] at hc
    exact hc

/-- Room behind the last element: they are written there. -/
theorem append_room_row {w : World} {t tx ty e : TypeId} {i : TypeInfo} (ht : P.underlying t = some (.slice e)) (hi : P.info? e = some i) {g sLen sCap : Nat} {cur : Array Value} (hg : w.heap[g]? = some (.cells cur e (0, 0)))
    {x : Value} {m : Nat} {news : List Value} (hs : Src P i.size tx x m news w) (hroom : sLen + m ≤ sCap) (hfit : sLen * i.size + news.length ≤ cur.size) :
    (Builtin.append_ #[t, tx] ty #[.slice (some ⟨g, 0, none⟩) sLen sCap, x]).run P w =
      .ok (.slice (some ⟨g, 0, none⟩) (sLen + m) sCap) (w.setRow g (cur.toList.take (sLen * i.size) ++ news ++ cur.toList.drop (sLen * i.size + news.length)).toArray) := by
  have hst := run_storeCells_at P g (sLen * i.size) e news 0 cur w hg (by simpa using hfit) hs.one
  simp only [Nat.add_zero] at hst
  have hlen := hs.len w
  have hcs := hs.cells
  rcases hs.kind with ⟨e', hk⟩ | hk <;> simp [Builtin.append_, run_underlying ht, run_underlying hk, sizeOf, typeInfo, hi, hlen, hroom, hcs, Addr.add_lit, hst]

/-- append, at least one element, to a row of the call's own. -/
theorem append_ok (ar : Bool) {w : World} {S : Cells} {r : Rho} {t tx ty el : TypeId} {i : TypeInfo} {zv : Value} {k L : Nat} {z : Nat} {m capx : Nat} {ax : Option Addr} {f g : Nat → List D} {c1 c2 : Nat → Nat → Value} {vy : Value} (hH : Hist X w S) (hI : Inv X w S r O)
    (ht : P.underlying t = some (.slice el)) (hi : P.info? el = some i) (hz : i.size = z) (hzv : i.zero = some zv) (hzs : zv.cells.size = z) (hz0 : 0 < z) (hcx : L ≤ capx)
    (hl1 : ∀ i, i < L → (f i).length = z ∧ (f i).all D.plain = true) (hr1 : ∀ i j, i < L → j < z → Rel S w noRho ((f i).getD j .any) (c1 i j))
    (hcell1 : ∀ i j, i < L → j < z → ∃ b o, ax = some ⟨b, o, none⟩ ∧ w.cell? ⟨b, o + i * z + j, none⟩ = some (c1 i j))
    (hsrc : Src P z tx vy m (flat z m c2) w)
    (hl2 : ∀ i, i < m → (g i).length = z ∧ (g i).all D.plain = true) (hr2 : ∀ i j, i < m → j < z → Rel S w noRho ((g i).getD j .any) (c2 i j))
    (hm : 0 < m) (hmax : L + m ≤ maxLen) (hby : (L + m) * i.bytes ≤ 140737488355328)
    (hk : (O k = none ∧ L = 0 ∧ capx = 0) ∨ (O k = some (mkO ar el z L f) ∧ ∀ tv, r k = some (.row tv L) → Tip (.slice ax L capx) tv)) :
    ∃ v w', (Builtin.append_ #[t, tx] ty #[.slice ax L capx, vy]).run P w = .ok v w' ∧ ∃ S' r', Rel S' w' r' (mkH ar k z (L + m) (catF L f m g)) v ∧ Hist X w' S' ∧ Inv X w' S' r' (updO O [(k, mkO ar el z (L + m) (catF L f m g))]) ∧
      (∀ b o, S b o → S' b o) ∧ (∀ b o, S b o → w'.cell? ⟨b, o, none⟩ = w.cell? ⟨b, o, none⟩) ∧ RhoLe r r' := by
  subst hz
  have hnl : (flat i.size m c2).length = m * i.size := flat_length ..
  obtain ⟨hcl, hcr⟩ := cat_data hl1 hr1 hl2 hr2
  have hi63 : ((L + m : Nat) : Int) ≤ 9223372036854775807 := by unfold maxLen at hmax; omega
  have newBlock : capx < L + m → (∀ cap', RhoLe r (updR r k (.row (.slice (some ⟨w.heap.size, 0, none⟩) (L + m) cap') (L + m)))) →
      ∃ v w', (Builtin.append_ #[t, tx] ty #[.slice ax L capx, vy]).run P w = .ok v w' ∧ ∃ S' r', Rel S' w' r' (mkH ar k i.size (L + m) (catF L f m g)) v ∧ Hist X w' S' ∧ Inv X w' S' r' (updO O [(k, mkO ar el i.size (L + m) (catF L f m g))]) ∧
        (∀ b o, S b o → S' b o) ∧ (∀ b o, S b o → w'.cell? ⟨b, o, none⟩ = w.cell? ⟨b, o, none⟩) ∧ RhoLe r r' := by
    intro hlt hle
    have hge := grownCap_ge w (L + m) capx el
    have hcm : grownCap w (L + m) capx el ≤ maxLen := grownCap_le_maxLen w (L + m) capx el hmax
    have hrun := run_append_grow_src (P := P) w t tx ty el i zv ht hi hzv ax L capx (flat i.size L c1)
      (first_cells (P := P) (w := w.drew) hz0 (fun i' j hi' hj => by
        obtain ⟨b, o, h1, h2⟩ := hcell1 i' j hi' hj
        exact ⟨b, o, h1, by simpa using h2⟩)) vy m (flat i.size m c2) hsrc hlt hi63 (grow_fits hlt hby)
    refine ⟨_, _, hrun, ?_⟩
    refine row_ok ar (g := none) (c := fun i' j => if i' < L then c1 i' j else c2 (i' - L) j) hH hI (Chg.drewAlloc w S hH.valid _ none) (fun b hb => by cases hb)
      (.inl ⟨Nat.le_refl _, by simp, hH.size⟩) (hle _) (heap_alloc_new w.drew _) hge hcm ?_ (fun i' j hi' hj => ?_) (fun o _ hs => ?_) hcl hcr
    · simp only [Array.size_append, List.size_toArray, List.length_append, zeroCells_size, hzs, flat_length, ← Nat.add_mul]
      congr 1
      omega
    · have := cat_at (c1 := c1) (c2 := c2) (Builtin.zeroCells zv.cells (grownCap w (L + m) capx el - (L + m))).toList hi' hj
      rw [← this, ← Array.getElem?_toList]
      simp
    · have := hH.valid _ _ hs; omega
  rcases hk with ⟨hk, rfl, rfl⟩ | ⟨hk, htip⟩
  · exact newBlock (by omega) (fun _ => RhoLe.new (hI.dom k hk))
  · obtain ⟨tv, htv, hrow⟩ := mkO_obj (hI.obj k _ hk)
    have hle : ∀ blk cap', RhoLe r (updR r k (.row (.slice (some ⟨blk, 0, none⟩) (L + m) cap') (L + m))) := fun blk cap' => RhoLe.upd htv ⟨by omega, fun e => by omega⟩
    rcases htip tv htv with htip | ⟨_, a2, htip⟩
    · rcases hrow with ⟨hnil, rfl⟩ | ⟨b, cap, cur, htv', hb, hLc, hcm, hsz, hfree⟩
      · rw [hnil] at htip
        simp only [Value.slice.injEq] at htip
        exact newBlock (by omega) (fun _ => hle _ _)
      · rw [htv'] at htip
        simp only [Value.slice.injEq] at htip
        obtain ⟨rfl, _, rfl⟩ := htip
        subst htv'
        have hblt : b < w.heap.size := (Array.getElem?_eq_some_iff.1 hb).1
        by_cases hroom : L + m ≤ capx
        · have hfit : L * i.size + (flat i.size m c2).length ≤ cur.size := by
            rw [flat_length, hsz, ← Nat.add_mul]
            exact Nat.mul_le_mul_right _ hroom
          have hrun := append_room_row (P := P) (w := w) (ty := ty) ht hi hb hsrc hroom hfit
          have hold : ∀ o, S b o → (cur.toList.take (L * i.size) ++ flat i.size m c2 ++ cur.toList.drop (L * i.size + (flat i.size m c2).length)).toArray[o]? = cur[o]? := by
            intro o ho
            have hlt : o < L * i.size := by
              rcases Nat.lt_or_ge o (L * i.size) with h | h
              · exact h
              · exact absurd ho (hfree o (.inr h))
            rw [List.getElem?_toArray, List.append_assoc, List.getElem?_append_left (by simp; omega), List.getElem?_take_of_lt hlt, Array.getElem?_toList]
          refine ⟨_, _, hrun, ?_⟩
          refine row_ok ar (el := el) (z := i.size) (N := L + m) (cap := capx) (f := catF L f m g) (k := k) (c := fun i' j => if i' < L then c1 i' j else c2 (i' - L) j) hH hI (Chg.setRow w S b cur _ el (0, 0) hb hold)
            (fun b' hb' => ⟨_, htv, by cases hb'; rfl⟩) (.inr ⟨_, htv, rfl, by simpa using hblt⟩) (hle _ _) (setRow_heap w b cur _ el (0, 0) hb) hroom hcm
            (by simp only [List.size_toArray, List.length_append, List.length_take, List.length_drop, Array.length_toList]; omega)
            (fun i' j hi' hj => by
              have e : cur.toList.take (L * i.size) = flat i.size L c1 := by
                apply List.ext_getElem?
                intro p
                by_cases hp : p < L * i.size
                · obtain ⟨i2, j2, rfl, h2, h3⟩ := flat_split hp
                  rw [List.getElem?_take_of_lt hp, flat_at c1 h2 h3, Array.getElem?_toList]
                  obtain ⟨b', o', he, hc'⟩ := hcell1 i2 j2 h2 h3
                  cases he
                  rw [Nat.zero_add, cell_of_row w b _ cur el (0, 0) hb] at hc'
                  exact hc'
                · rw [List.getElem?_eq_none (by simp; omega), List.getElem?_eq_none (by rw [flat_length]; omega)]
              rw [List.getElem?_toArray, e]
              exact cat_at _ hi' hj)
            (fun o ho => hfree o (by
              rcases ho with h | h
              · exact .inl h
              · exact .inr (Nat.le_trans (Nat.mul_le_mul_right _ (by omega)) h))) hcl hcr
        · exact newBlock (by omega) (fun _ => hle _ _)
    · simp only [Value.slice.injEq] at htip
      exact newBlock (by omega) (fun _ => hle _ _)

end
end Go.Proofs.YtghdgjabpdfaoaaDoor.Flow

/-
  FLOW, PART H: EVERY OPERATION THAT 'step' KNOWS DOES WHAT IT SAYS.
-/
namespace Go.Proofs.YtghdgjabpdfaoaaDoor.Flow

section
variable {P : Program} {X : Ctx} {n : Nat} {o : Oper} {F : Nat → D} {O own : Nat → Option Own}

theorem fin_value {w : World} {S : Cells} {r : Rho} {a : Act} {d : D} {wr : List (Nat × Own)} {v : Value} (hH : Hist X w S) (hI : Inv X w S r O) (hwr : wr = []) (hrun : (execOp a.eval o).run P w = .ok (.value v) w) (hv : Rel S w r d v) :
    ∃ v w' S' r', ((execOp a.eval o).run P w = .ok (.value v) w' ∨ ((execOp a.eval o).run P w = .ok .skip w' ∧ v = undef)) ∧ Rel S' w' r' d v ∧ Hist X w' S' ∧ Inv X w' S' r' (updO O wr) ∧
        (∀ b o, S b o → S' b o) ∧ (∀ b o, S b o → w'.cell? ⟨b, o, none⟩ = w.cell? ⟨b, o, none⟩) ∧ RhoLe r r' := by
  subst hwr
  exact ⟨v, w, S, r, .inl hrun, hv, hH, hI, fun _ _ h => h, fun _ _ _ => rfl, RhoLe.refl r⟩

theorem pickD_sound {S : Cells} {w : World} {r : Rho} {dc dx dy : D} {vc vx vy : Value} {s : Stp} (hs : pickD dc dx dy = some s) (hc : Rel S w r dc vc) (hx : Rel S w r dx vx) (hy : Rel S w r dy vy) :
    ∃ c, vc = .bool c ∧ Rel S w r s.d (if c then vx else vy) ∧ s.wr = [] := by
  cases hc with
  | b _ c =>
    refine ⟨c, rfl, ?_⟩
    cases c
    · simp only [pickD, fz_eq] at hs
      cases hs
      exact ⟨hy, rfl⟩
    · simp only [pickD, fz_eq] at hs
      cases hs
      exact ⟨hx, rfl⟩
  | _ => simp only [pickD] at hs; cases hs

theorem zeroD_spec {t : TypeId} {d : D} (h : zeroD P t = some d) : ∃ i v, P.info? t = some i ∧ i.zero = some v ∧ d = ofVal v := by
  unfold zeroD at h
  split at h <;> first | (cases h; done) | skip
  split at h
  · rename_i i hi
    split at h
    · rename_i v hv
      cases h
      exact ⟨i, v, hi, hv, rfl⟩
    · cases h
  · cases h

theorem places_of : ∀ (gs : List Field), (∀ f ∈ gs, ∃ z, szOf P f.type = some z) →
    gs.mapM (fun f => (P.info? f.type).map fun i => (f.offset, i.size)) = some (gs.map fun f => (f.offset, (match szOf P f.type with | some (z, g) => (z, g) | none => (0, false)).1))
  | [], _ => rfl
  | f :: gs, h => by
    obtain ⟨z, hz⟩ := h f (by simp)
    obtain ⟨i, d, h1, h2, h3, h4⟩ := szOf_spec hz
    have ih := places_of gs (fun g hg => h g (by simp [hg]))
    obtain ⟨z1, z2⟩ := z
    simp only [List.mapM_cons, h1, Option.map_some, List.map_cons, hz, ih, ← h3]
    rfl

theorem buildD_sound {S : Cells} {w : World} {r : Rho} {t : TypeId} {ds : List (Nat × D)} {vs : List (Nat × Value)} {s : Stp} (hs : buildD (tb P) t ds = some s) (hp : Parts S w r ds vs) :
    ∃ v, (Instr.build t vs.toArray).run P w = .ok v w ∧ Rel S w r s.d v ∧ s.wr = [] := by
  unfold buildD at hs
  simp only [fzA_eq] at hs
  split at hs
  · rename_i z fs hz ht
    obtain ⟨it, zv, h1, h2, rfl⟩ := zeroD_spec hz
    split at hs <;> first | (cases hs; done) | skip
    rename_i cs hall hfill
    cases hs
    simp only [Bool.and_eq_true] at hall
    obtain ⟨hall, hsol⟩ := hall
    obtain ⟨gs, hu, hfs⟩ := tyOf_struct ht
    have hex : ∀ f ∈ gs.toList, ∃ z, szOf P f.type = some z := by
      intro f hf
      rw [List.all_eq_true] at hall
      have := hall (f.offset, match szOf P f.type with | some (z, g) => (z, g) | none => (0, false)) (by rw [hfs]; exact List.mem_map.2 ⟨f, hf, rfl⟩)
      cases hq : szOf P f.type with
      | some z => exact ⟨z, rfl⟩
      | none => rw [hq] at this; simp [Nat.beq] at this
    have hpl := places_of (P := P) gs.toList hex
    obtain ⟨hzn, hzr⟩ := rel_cells (ofVal_rel S w r zv) hsol
    obtain ⟨cells', g1, g2, g3, g4⟩ := fill_sound hp hfill hzn hzr
    refine ⟨.agg cells', ?_, .ag _ _ _ g2 g4, rfl⟩
    refine run_build w t _ cells' ?_
    have e : (fun (x : Nat) => (gs.toList.map fun f => (f.offset, (match szOf P f.type with | some (z, g) => (z, g) | none => (0, false)).1)).toArray[x]?) = (fun (i : Nat) => (fs.map fun f => (f.1, f.2.1))[i]?) := by
      funext x
      subst hfs
      simp only [List.getElem?_toArray, List.map_map, Function.comp_def]
      rfl
    unfold Program.built
    simp only [h1, hu, h2, hpl]
    simp only [e]
    exact g1
  · rename_i z m el size g hz ht
    obtain ⟨it, zv, h1, h2, rfl⟩ := zeroD_spec hz
    split at hs <;> first | (cases hs; done) | skip
    rename_i cs hsol hfill
    cases hs
    obtain ⟨hu, hze⟩ := tyOf_array ht
    obtain ⟨ie, d, k1, k2, k3, k4⟩ := szOf_spec hze
    obtain ⟨hzn, hzr⟩ := rel_cells (ofVal_rel S w r zv) hsol
    obtain ⟨cells', g1, g2, g3, g4⟩ := fill_sound hp hfill hzn hzr
    refine ⟨.agg cells', ?_, .ag _ _ _ g2 g4, rfl⟩
    refine run_build w t _ cells' ?_
    unfold Program.built
    simp only [h1, hu, h2, k1, k3]
    exact g1
  · cases hs

theorem chunk_data {z len : Nat} {cs : List D} (hl : cs.length = len * z) (hp : cs.all D.plain = true) : ∀ i, i < len → (chunk z cs i).length = z ∧ (chunk z cs i).all D.plain = true := by
  intro i hi
  have : (i + 1) * z ≤ len * z := Nat.mul_le_mul_right z hi
  rw [Nat.add_mul] at this
  refine ⟨by simp [chunk]; omega, ?_⟩
  rw [List.all_eq_true] at hp ⊢
  intro x hx
  exact hp x (List.mem_of_mem_drop (List.mem_of_mem_take hx))

theorem chunk_getD {z len i j : Nat} {cs : List D} (hj : j < z) : (chunk z cs i).getD j .any = cs.getD (i * z + j) .any := by
  simp only [chunk, List.getD_eq_getElem?_getD, List.getElem?_take_of_lt hj, List.getElem?_drop]

theorem buildSlice_ok (ar : Bool) {w : World} {S : Cells} {r : Rho} {t el : TypeId} {z len by' : Nat} {g : Bool} {k : Nat} {zd : D} {cs : List D} {ds : List (Nat × D)} {vs : List (Nat × Value)} (hH : Hist X w S) (hI : Inv X w S r O)
    (ht : tyOf P t = .slice el z g by') (hz : zeroD P el = some zd) (hfill : fillD (fun i => some (i * z, z)) (List.replicate (len * z) .any) ds = some cs) (hp : Parts S w r ds vs)
    (hpl : cs.all D.plain = true) (hz0 : 0 < z) (hsz : len * z ≤ 16777216) (hk : O k = none) :
    ∃ v w', (Instr.buildSlice t len vs.toArray).run P w = .ok v w' ∧ ∃ S' r', Rel S' w' r' (mkH ar k z len (chunk z cs)) v ∧ Hist X w' S' ∧ Inv X w' S' r' (updO O [(k, mkO ar el z len (chunk z cs))]) ∧
      (∀ b o, S b o → S' b o) ∧ (∀ b o, S b o → w'.cell? ⟨b, o, none⟩ = w.cell? ⟨b, o, none⟩) ∧ RhoLe r r' := by
  obtain ⟨hu, hze, ie, hie, hisz, _⟩ := tyOf_slice ht
  obtain ⟨it, zv, h1, h2, _⟩ := zeroD_spec hz
  rw [hie] at h1
  cases h1
  have hsize := run_sizeOf (w := w) hze
  obtain ⟨z0, hz0r⟩ : ∃ z0 : Array Value, (len * z = 0 ∧ z0 = #[]) ∨ (len * z ≠ 0 ∧ z0 = zv.cells) := by
    by_cases e : len * z = 0
    · exact ⟨#[], .inl ⟨e, rfl⟩⟩
    · exact ⟨zv.cells, .inr ⟨e, rfl⟩⟩
  have hzv : (zeroValue el).run P w = .ok zv w := by simp [zeroValue, typeInfo, hie, h2]
  obtain ⟨cells', g1, g2, g3, g4⟩ := fill_sound (cells := (Array.range (len * z)).map (z0[· % z0.size]!)) hp hfill (by simp) (fun j hj => by
    have : (List.replicate (len * z) D.any).getD j .any = .any := by
      simp only [List.length_replicate] at hj
      simp [List.getD_eq_getElem?_getD, hj]
    rw [this]
    exact .any ..)
  have hcl : cs.length = len * z := by rw [g3]; simp
  have hone : ∀ i j, i < len → j < z → Rel S w noRho ((chunk z cs i).getD j .any) (cells'.getD (i * z + j) undef) := by
    intro i j hi hj
    have hlt : i * z + j < cs.length := by
      rw [hcl]
      have : (i + 1) * z ≤ len * z := Nat.mul_le_mul_right z hi
      rw [Nat.add_mul] at this
      omega
    rw [chunk_getD (len := len) hj]
    refine (g4 _ hlt).plain ?_ noRho
    rw [List.all_eq_true] at hpl
    refine hpl _ ?_
    simp only [List.getD_eq_getElem?_getD, List.getElem?_eq_getElem hlt, Option.getD_some]
    exact List.getElem_mem hlt
  refine ⟨.slice (some ⟨w.heap.size, 0, none⟩) len len, w.alloc (.cells cells' el), ?_, ?_⟩
  · simp only [Instr.buildSlice, Sem.run_bind, run_underlying hu, Result.andThen_ok, hsize]
    rw [if_neg (by omega)]
    rcases hz0r with ⟨e, rfl⟩ | ⟨e, rfl⟩
    · rw [if_pos e]
      simp only [Sem.run_bind, Sem.run_pure, Result.andThen_ok]
      rw [g1]
      simp [newRow]
    · rw [if_neg e]
      simp only [Sem.run_bind, Sem.run_pure, Result.andThen_ok, hzv]
      rw [g1]
      simp [newRow]
  · have hge : len ≤ maxLen := by
      have : len * 1 ≤ len * z := Nat.mul_le_mul_left _ hz0
      unfold maxLen
      omega
    refine row_ok ar (g := none) (c := fun i j => cells'.getD (i * z + j) undef) hH hI (Chg.alloc w S hH.valid _) (fun b hb => by cases hb) (.inl ⟨Nat.le_refl _, by simp, hH.size⟩) (RhoLe.new (hI.dom k hk))
      (heap_alloc_new w _) (Nat.le_refl _) hge (by rw [g2, hcl]) (fun i j hi hj => ?_) (fun o _ hs => ?_) (chunk_data hcl hpl) hone
    · have hlt : i * z + j < cells'.size := by
        rw [g2, hcl]
        have : (i + 1) * z ≤ len * z := Nat.mul_le_mul_right z hi
        rw [Nat.add_mul] at this
        omega
      simp [Array.getD_eq_getD_getElem?, hlt]
    · have := hH.valid _ _ hs; omega

theorem bytes_foldl : ∀ (ns : List Int) (b : ByteArray), (ns.foldl (fun r n => r.push (UInt8.ofNat n.toNat)) b) = ⟨(b.data.toList ++ ns.map fun n => UInt8.ofNat n.toNat).toArray⟩
  | [], b => by simp
  | n :: ns, b => by
    rw [List.foldl_cons, bytes_foldl ns]
    congr 1
    simp [ByteArray.push]

theorem bytes_string {S : Cells} {w : World} {r : Rho} {src dst e len : Nat} {f : Nat → List D} {v : Value} (hs : P.underlying src = some (.slice e)) (he : P.underlying e = some (.int .u8)) (hd : P.underlying dst = some .string)
    (hx : Rel S w r (.sl 1 len f) v) (hf : ∀ i, i < len → ∃ n, f i = [.i .u8 n]) :
    ∃ v', (convert src dst v).run P w = .ok v' w ∧ Rel S w r (.s (bytesOf len f)) v' := by
  obtain ⟨a, cap, c, rfl, hc, hm, hl, hr, hcell⟩ := sl_cells hx
  rw [run_convert_bytes_string w src dst e a len cap hs he hd]
  cases a with
  | none =>
    have h0 : len = 0 := by
      rcases Nat.eq_zero_or_pos len with h | h
      · exact h
      · obtain ⟨b, o, h1, _⟩ := hcell 0 0 h (by omega)
        cases h1
    subst h0
    exact ⟨.string .empty, by simp [Conv.bytesToString], .s ..⟩
  | some ad =>
    let ns : List Int := (List.range len).map fun i => match f i with | [.i _ n] => n | _ => 0
    have hload : (loadCells ad len).run P w = .ok (ns.map (Value.int .u8)).toArray w := by
      rw [run_loadCells w ad len (fun j => c j 0) (fun j hj => ?_)]
      · congr 2
        simp only [ns, List.map_map]
        refine List.map_congr_left fun i hi => ?_
        simp only [List.mem_range] at hi
        obtain ⟨n, hn⟩ := hf i hi
        have := hr i 0 hi (by omega)
        rw [hn] at this
        simp only [List.getD_cons_zero] at this
        simp only [Function.comp_apply, hn]
        have key : ∀ u, Rel S w noRho (.i .u8 n) u → Value.int .u8 n = u := fun u h => by cases h; rfl
        exact (key _ this).symm
      · obtain ⟨b, o, he, _, hcl⟩ := hcell j 0 hj (by omega)
        cases he
        rw [Addr.add_lit]
        simpa using hcl
    rw [run_bytesToString w ad len cap ns hload, bytes_foldl]
    refine ⟨_, rfl, ?_⟩
    have : (ByteArray.empty.data.toList ++ ns.map fun n => UInt8.ofNat n.toNat) = bytesOf len f := by
      simp only [ns, List.map_map, bytesOf]
      show [] ++ _ = _
      rw [List.nil_append]
      refine List.map_congr_left fun i hi => ?_
      simp only [List.mem_range] at hi
      obtain ⟨n, hn⟩ := hf i hi
      simp [hn, byteOf]
    rw [this]
    exact .s ..

end
end Go.Proofs.YtghdgjabpdfaoaaDoor.Flow

/-
  FLOW, PART I: 'step' IS RIGHT.
-/
namespace Go.Proofs.YtghdgjabpdfaoaaDoor.Flow

section
variable {P : Program} {X : Ctx} {n : Nat} {o : Oper} {F : Nat → D} {O own : Nat → Option Own}

theorem boundsD_sound {S : Cells} {w : World} {r : Rho} {len cap : Nat} {isSlice : Bool} {e : Operand → D} {ρ : Operand → Value} {lo hi : Option Operand} {n m : Int} (h : boundsD len e lo hi = some (n, m))
    (hl : ∀ x, lo = some x → Rel S w r (e x) (ρ x)) (hh : ∀ x, hi = some x → Rel S w r (e x) (ρ x)) (h0 : 0 ≤ n) (h1 : n ≤ m) (h2 : m ≤ len) (hc : len ≤ cap) :
    (Instr.sliceBounds isSlice len cap (lo.map ρ) (hi.map ρ) none).run P w = .ok (n.toNat, m.toNat, cap) w := by
  have h3 : m ≤ cap := by omega
  have key : ∀ x k, Rel S w r (e x) (ρ x) → (∃ k', e x = .i k' k) → ∃ k', ρ x = .int k' k := fun x k hr ⟨k', he⟩ => by
    rw [he] at hr
    generalize ρ x = u at hr
    cases hr
    exact ⟨_, rfl⟩
  unfold boundsD at h
  split at h
  · cases h
    simp [Instr.sliceBounds]
  · rename_i x
    split at h <;> first | (cases h; done) | skip
    rename_i k a he
    cases h
    obtain ⟨k', hk⟩ := key x _ (hl x rfl) ⟨_, he⟩
    simp [Instr.sliceBounds, Instr.sliceBound, hk, asIntOf, h0, h1]
  · rename_i x
    split at h <;> first | (cases h; done) | skip
    rename_i k a he
    cases h
    obtain ⟨k', hk⟩ := key x _ (hh x rfl) ⟨_, he⟩
    have h4 : 0 ≤ m := by omega
    simp [Instr.sliceBounds, Instr.sliceBound, hk, asIntOf, h4, h3]
  · rename_i x y
    split at h <;> first | (cases h; done) | skip
    rename_i k a k2 b he he2
    cases h
    obtain ⟨k', hk⟩ := key x _ (hl x rfl) ⟨_, he⟩
    obtain ⟨k'', hk2⟩ := key y _ (hh y rfl) ⟨_, he2⟩
    have h4 : 0 ≤ m := by omega
    have h5 : n ≤ (m.toNat : Int) := by omega
    simp [Instr.sliceBounds, Instr.sliceBound, hk, hk2, asIntOf, h4, h3, h0, h5]
    intro h6
    omega

theorem sub_slice {S : Cells} {w : World} {r : Rho} {z len lo hi cap : Nat} {f : Nat → List D} {a : Option Addr} (h : Rel S w r (.sl z len f) (.slice a len cap)) (h1 : lo ≤ hi) (h2 : hi ≤ len) :
    Rel S w r (.sl z (hi - lo) (fun i => f (lo + i))) (.slice (if cap = lo then a else a.map (·.add (lo * z))) (hi - lo) (cap - lo)) := by
  obtain ⟨a', cap', c, e, hc, hm, hl, hr, hcell⟩ := sl_cells h
  cases e
  refine .sl _ _ _ _ _ _ (fun i j => c (lo + i) j) (by omega) (by omega) (fun i hi' => hl _ (by omega)) (fun i j hi' hj => ?_) (fun i j hi' hj => hr _ _ (by omega) hj)
  obtain ⟨b, o, he, hs, hcl⟩ := hcell (lo + i) j (by omega) hj
  rw [if_neg (by omega)]
  refine ⟨b, o + lo * z, by rw [he]; simp [Addr.add_lit], ?_⟩
  have e : o + lo * z + i * z + j = o + (lo + i) * z + j := by rw [Nat.add_mul]; omega
  rw [e]
  exact ⟨hs, hcl⟩

theorem append_none_run {w : World} {t tx ty e : TypeId} {i : TypeInfo} (ht : P.underlying t = some (.slice e)) (hi : P.info? e = some i) {base : Option Addr} {n cap : Nat} (h : n ≤ cap) {x : Value} (hs : Src P i.size tx x 0 [] w) :
    (Builtin.append_ #[t, tx] ty #[.slice base n cap, x]).run P w = .ok (.slice base n cap) w := by
  have h1 := hs.len w
  have h2 := hs.cells
  have h3 : n + 0 ≤ cap := h
  rcases hs.kind with ⟨e', hk⟩ | hk <;> cases base <;> simp [Builtin.append_, run_underlying ht, run_underlying hk, sizeOf, typeInfo, hi, h1, h2, h, storeCells]

/-- append of no element, to a slice without room. -/
theorem append_zero_new (ar : Bool) {w : World} {S : Cells} {r : Rho} {t tx ty el : TypeId} {i : TypeInfo} {k z : Nat} {g : Nat → List D} {ax : Option Addr} {vy : Value} (hH : Hist X w S) (hI : Inv X w S r O)
    (ht : P.underlying t = some (.slice el)) (hi : P.info? el = some i) (hs : Src P i.size tx vy 0 [] w) (hk : O k = none) :
    ∃ v w', (Builtin.append_ #[t, tx] ty #[.slice ax 0 0, vy]).run P w = .ok v w' ∧ ∃ S' r', Rel S' w' r' (mkH ar k z 0 g) v ∧ Hist X w' S' ∧ Inv X w' S' r' (updO O [(k, mkO ar el z 0 g)]) ∧
      (∀ b o, S b o → S' b o) ∧ (∀ b o, S b o → w'.cell? ⟨b, o, none⟩ = w.cell? ⟨b, o, none⟩) ∧ RhoLe r r' := by
  have hrun := append_none_run (P := P) (w := w) (ty := ty) (base := ax) ht hi (Nat.le_refl 0) hs
  have hle : RhoLe r (updR r k (.row (.slice none 0 0) 0)) := RhoLe.new (hI.dom k hk)
  have hk0 : updR r k (.row (.slice none 0 0) 0) k = some (.row (.slice none 0 0) 0) := by simp [updR]
  have hc : Chg w w S none := ⟨rfl, rfl, rfl, Nat.le_refl _, fun _ _ _ => rfl, fun _ _ _ => rfl⟩
  have htip : Tip (.slice ax 0 0) (.slice none 0 0) := .inr ⟨rfl, ax, rfl⟩
  refine ⟨_, _, hrun, S, updR r k (.row (.slice none 0 0) 0), ?_, hH, ?_, fun _ _ h => h, fun _ _ _ => rfl, hle⟩
  · cases ar with
    | true => exact .ah _ k z 0 0 ax _ 0 hk0 (Nat.le_refl _) (fun _ => htip) (fun h => by omega)
    | false => exact .gs _ k z 0 g _ _ 0 (.sl _ _ _ _ ax 0 (fun _ _ => undef) (Nat.le_refl _) (by unfold maxLen; omega) (fun i hi => by omega) (fun i j hi => by omega) (fun i j hi => by omega)) hk0 (Nat.le_refl _) (fun _ => htip)
  · refine hI.put hc (fun _ _ h => h) hle k _ (.row (.slice none 0 0) 0) ?_ hk0 (fun j hj => by simp [updR, hj]) (fun b hb => by simp [Loc.block] at hb) (fun b hb => by cases hb) (fun _ _ h => .inl h)
    cases ar with
    | true => exact ⟨_, hk0, .inl ⟨rfl, rfl⟩⟩
    | false => exact ⟨_, hk0, .inl ⟨rfl, rfl⟩⟩

theorem catF_zero (n : Nat) (f g : Nat → List D) : catF n f 0 g = f := by
  funext i
  unfold catF
  split
  · rfl
  · rw [if_neg (by omega)]
theorem catF_from (f g : Nat → List D) (m : Nat) (hf : f = g) : catF 0 f m g = g := by
  funext i
  subst hf
  unfold catF
  rw [if_neg (by omega)]
  split <;> rfl

theorem updO_put {k : Nat} {o : Own} (hk : O k = some o) : updO O [(k, o)] = O := by
  funext j
  show (if j = k then some o else O j) = O j
  by_cases e : j = k
  · subst e; rw [if_pos rfl, hk]
  · rw [if_neg e]

/-- What is appended, told by data. -/
theorem srcD_sound {w : World} {S : Cells} {r : Rho} {t t2 el : TypeId} {dy : D} {vy : Value} {e2 m : Nat} {gf : Nat → List D} (hs : srcD (tb P) t t2 el dy = some (e2, m, gf)) (ht : P.underlying t = some (.slice el)) (hy : Rel S w r dy vy) (hz : 0 < e2) :
    ∃ c2 : Nat → Nat → Value, Src P e2 t2 vy m (flat e2 m c2) w ∧ (∀ i, i < m → (gf i).length = e2 ∧ (gf i).all D.plain = true) ∧ (∀ i j, i < m → j < e2 → Rel S w noRho ((gf i).getD j .any) (c2 i j)) := by
  unfold srcD at hs
  split at hs
  · rename_i l
    split at hs <;> first | (cases hs; done) | skip
    rename_i h1 h2
    cases hs
    cases hy
    refine ⟨fun i _ => .int .u8 ((l.getD i 0).toNat : Int), ?_, fun i hi => ⟨rfl, rfl⟩, fun i j hi hj => ?_⟩
    · have hb := Src.ofString (P := P) w (tyOf_str h1) ⟨l.toArray⟩
      have hsz : (ByteArray.mk l.toArray).size = l.length := by simp [ByteArray.size]
      have hc : byteCells ⟨l.toArray⟩ = flat 1 l.length (fun i _ => .int .u8 ((l.getD i 0).toNat : Int)) := by
        apply List.ext_getElem?
        intro p
        by_cases hp : p < l.length
        · have h3 := flat_at (z := 1) (m := l.length) (i := p) (j := 0) (fun i _ => Value.int .u8 ((l.getD i 0).toNat : Int)) hp (by omega)
          rw [Nat.mul_one, Nat.add_zero] at h3
          rw [h3]
          simp [byteCells, hp, List.getD_eq_getElem?_getD]
        · rw [List.getElem?_eq_none (by rw [byteCells_length, hsz]; omega), List.getElem?_eq_none (by rw [flat_length]; omega)]
      rw [hc, hsz] at hb
      exact hb
    · have : j = 0 := by omega
      subst this
      exact .i ..
  · split at hs <;> first | (cases hs; done) | skip
    rename_i htt
    have := Nat.eq_of_beq_eq_true htt
    subst this
    have hsl : Rel S w r (.sl e2 m gf) vy := by
      unfold elemsOf at hs
      split at hs
      · cases hs; exact hy
      · cases hs; exact hy.shut
      · cases hs; exact hy.weak (.se _ _ _)
      · cases hs
    obtain ⟨a, cap, c, rfl, hc, hm, hl, hr, hcell⟩ := sl_cells hsl
    refine ⟨c, ?_, hl, hr⟩
    cases a with
    | none =>
      have h0 : m = 0 := by
        rcases Nat.eq_zero_or_pos m with h | h
        · exact h
        · obtain ⟨b, o, h1, _⟩ := hcell 0 0 h hz
          cases h1
      subst h0
      have hf : flat e2 0 c = [] := by simp [flat]
      rw [hf]
      exact Src.ofNil w ht cap
    | some ad => exact Src.ofSlice w ht ad m cap _ (flat_length ..) (flat_cells hcell) (flat_oneCell hl hr)

/-- make. -/
theorem make_ok {w : World} {S : Cells} {r : Rho} {t el : TypeId} {z by' k : Nat} {g : Bool} {zd : D} {kl kc : IntKind} {n m : Int} (hH : Hist X w S) (hI : Inv X w S r O) (ht : tyOf P t = .slice el z g by') (hz : zeroD P el = some zd) (hk : O k = none)
    (h1 : 0 ≤ n) (h2 : n ≤ m) (h3 : m ≤ 9223372036854775807) (h4 : (by' : Int) * m ≤ 281474976710656) (h5 : zd.cells.length = z) (h6 : zd.solid = true) (h7 : zd.cells.all D.plain = true) (h8 : 0 < z) :
    ∃ v w', (Instr.makeSlice t (.int kl n) (.int kc m)).run P w = .ok v w' ∧ ∃ S' r', Rel S' w' r' (.ah k z n.toNat) v ∧ Hist X w' S' ∧ Inv X w' S' r' (updO O [(k, .arr el z n.toNat (fun _ => zd.cells))]) ∧
      (∀ b o, S b o → S' b o) ∧ (∀ b o, S b o → w'.cell? ⟨b, o, none⟩ = w.cell? ⟨b, o, none⟩) ∧ RhoLe r r' := by
  obtain ⟨hu, hze, ie, hie, hisz, hib⟩ := tyOf_slice ht
  obtain ⟨it, zv, g1, g2, rfl⟩ := zeroD_spec hz
  rw [hie] at g1
  cases g1
  obtain ⟨hzn, hzr⟩ := rel_cells (ofVal_rel S w r zv) h6
  have hrun := run_make (P := P) w t el ie zv hu hie g2 kl kc n m h1 h2 (by rw [hib]; exact h4) h3
  refine ⟨_, _, hrun, ?_⟩
  refine row_ok true (g := none) (f := fun _ => (ofVal zv).cells) (c := fun _ j => zv.cells.getD j undef) hH hI (Chg.alloc w S hH.valid _) (fun b hb => by cases hb) (.inl ⟨Nat.le_refl _, by simp, hH.size⟩) (RhoLe.new (hI.dom k hk))
    (heap_alloc_new w _) (by omega) (by unfold maxLen; omega) (by rw [size_madeCells, hisz]) (fun i j hi hj => ?_) (fun o _ hs => ?_) (fun i hi => ⟨h5, h7⟩) (fun i j hi hj => ?_)
  · have hlt : i * z + j < m.toNat * z := by
      have : (i + 1) * z ≤ m.toNat * z := Nat.mul_le_mul_right z (by omega)
      rw [Nat.add_mul] at this
      omega
    have hzs : zv.cells.size = z := by omega
    have hmod : (i * z + j) % z = j := by
      rw [Nat.mul_comm, Nat.mul_add_mod, Nat.mod_eq_of_lt hj]
    rw [hisz]
    have hj2 : j < zv.cells.size := by omega
    have hg : zv.cells[j]! = zv.cells[j]?.getD undef := by rw [getElem!_pos zv.cells j hj2]; simp [hj2]
    simp [madeCells, hlt, hzs, hmod, Array.getD_eq_getD_getElem?, hg]
  · have := hH.valid _ _ hs; omega
  · refine (hzr j (by omega)).plain ?_ noRho
    rw [List.all_eq_true] at h7
    refine h7 _ ?_
    simp only [List.getD_eq_getElem?_getD, List.getElem?_eq_getElem (show j < (ofVal zv).cells.length by omega), Option.getD_some]
    exact List.getElem_mem _

/-- More cells that stay as they are, in blocks that are new. -/
theorem Inv.grow {w w' : World} {S S' : Cells} {r : Rho} (h : Inv X w S r O) (c : Chg w w' S none) (hS : ∀ b o, S b o → S' b o) (hn : ∀ b o, S' b o → S b o ∨ w.heap.size ≤ b) : Inv X w' S' r O where
  obj := fun k o hk => (h.obj k o hk).keep c hS (RhoLe.refl r) rfl (fun _ _ _ _ e => by cases e) (fun b o' hb => by
    rcases hn b o' hb with h1 | h1
    · exact .inl h1
    · refine .inr fun l hl e => ?_
      have := (h.obj k o hk).blockLt hl e
      omega)
  dom := h.dom
  apart := h.apart
  low := h.low

theorem bytes_of_string {w : World} {S : Cells} {r : Rho} {src dst e : TypeId} {l : List UInt8} (hH : Hist X w S) (hI : Inv X w S r O) (hs : P.underlying src = some .string) (hd : P.underlying dst = some (.slice e)) (he : P.underlying e = some (.int .u8))
    (hl : l.length < maxLen) :
    ∃ v w' S' r', (convert src dst (.string ⟨l.toArray⟩)).run P w = .ok v w' ∧ Rel S' w' r' (.sl 1 l.length (bytesF l)) v ∧ Hist X w' S' ∧ Inv X w' S' r' O ∧
        (∀ b o, S b o → S' b o) ∧ (∀ b o, S b o → w'.cell? ⟨b, o, none⟩ = w.cell? ⟨b, o, none⟩) ∧ RhoLe r r' := by
  have hrun := run_bytes_of_string (P := P) w src dst e ⟨l.toArray⟩ hs hd he
  have hsz : (ByteArray.mk l.toArray).size = l.length := by simp [ByteArray.size]
  rw [hsz] at hrun
  have hge := grownCap_ge w l.length 0 e
  have hcm := grownCap_le_maxLen w l.length 0 e (by omega)
  refine ⟨_, _, fun b o => S b o ∨ (b = w.heap.size ∧ o < l.length), r, hrun, ?_, ?_, ?_, fun _ _ h => .inl h, (Chg.drewAlloc w S hH.valid _ none).cell, RhoLe.refl r⟩
  · refine rel_row (c := fun i _ => .int .u8 ((l.getD i 0).toNat : Int)) (heap_alloc_new w.drew _) hge hcm (fun i j hi hj => ?_) (fun i j hi hj => .inr ⟨rfl, by omega⟩) (fun i hi => ⟨rfl, rfl⟩) (fun i j hi hj => ?_)
    · have : j = 0 := by omega
      subst this
      simp only [bytesRow, List.map_toArray, Nat.mul_one, Nat.add_zero]
      rw [Array.getElem?_append_left (by simpa using hi)]
      simp [hi, List.getD_eq_getElem?_getD]
    · have : j = 0 := by omega
      subst this
      exact .i ..
  · refine hH.chg (Chg.drewAlloc w S hH.valid _ none) (fun b hb => by cases hb) (fun _ _ h => .inl h) (fun b o h => ?_)
    rcases h with h | ⟨rfl, _⟩
    · exact .inl h
    · exact .inr ⟨.inl hH.size, by simp⟩
  · refine hI.grow (Chg.drewAlloc w S hH.valid _ none) (fun _ _ h => .inl h) (fun b o h => ?_)
    rcases h with h | ⟨rfl, _⟩
    · exact .inl h
    · exact .inr (Nat.le_refl _)

theorem slice0D_sound {w : World} {S : Cells} {r : Rho} {t : TypeId} {dx dl dh dm : D} {vx vl vh vm : Value} {lo : Option Value} {s : Stp} (hs : slice0D (tb P) t dx dl dh dm = some s) (hp : s.p) (hx : Rel S w r dx vx)
    (hl : Rel S w r dl (lo.getD vl)) (hh : Rel S w r dh vh) (hm : Rel S w r dm vm) (_hlo : lo = none → True) :
    ∃ v, (Instr.sliceAt t vx lo (some vh) (some vm)).run P w = .ok v w ∧ Rel S w r s.d v ∧ s.wr = [] := by
  unfold slice0D at hs
  split at hs <;> first | (cases hs; done) | skip
  rename_i el z' g by' k1 l k2 h k3 m ht
  obtain ⟨hu, hz, _⟩ := tyOf_slice ht
  have main : ∀ (a : Option Addr) (len cap : Nat), vx = .slice a len cap → l = 0 → h = 0 → m = 0 → ∃ a', (Instr.sliceAt t vx lo (some vh) (some vm)).run P w = .ok (.slice a' 0 0) w := by
    intro a len cap hv h1 h2 h3
    subst hv h1 h2 h3
    cases hh
    cases hm
    cases lo with
    | none => exact ⟨a, by simp [Instr.sliceAt, Instr.slice, run_underlying hu, Instr.sliceBounds, Instr.sliceBound, asIntOf, run_sizeOf (w := w) hz]⟩
    | some v =>
      simp only [Option.getD_some] at hl
      cases hl
      exact ⟨a, by simp [Instr.sliceAt, Instr.slice, run_underlying hu, Instr.sliceBounds, Instr.sliceBound, asIntOf, run_sizeOf (w := w) hz]⟩
  split at hs
  · cases hs
    obtain ⟨a, cap, c, hv, _⟩ := sl_cells hx
    obtain ⟨a', h1⟩ := main a _ cap hv hp.1 hp.2.1 hp.2.2.1
    exact ⟨_, h1, .e0 .., rfl⟩
  · cases hs
    obtain ⟨a, cap, c, hv, _⟩ := sl_cells hx.shut
    obtain ⟨a', h1⟩ := main a _ cap hv hp.1 hp.2.1 hp.2.2.1
    exact ⟨_, h1, .e0 .., rfl⟩
  · cases hs
    cases hx
    obtain ⟨a', h1⟩ := main none 0 0 rfl hp.1 hp.2.1 hp.2.2
    exact ⟨_, h1, .e0 .., rfl⟩
  · cases hs

set_option maxHeartbeats 2000000 in
theorem stepK_sound {ar : Bool} {e : Operand → D} {s : Stp} (hs : stepK ar (tb P) e own o = some s) (hp : s.p) (hd : dstOk o.dst n) (he : ∀ x ∈ o.op.operands.toList, evF F x = e x) (hO : ∀ k ∈ s.rd, O k = own k) :
    StepAt P X n o F O s.d s.wr := by
  unfold stepK at hs
  simp only [fz_eq] at hs
  have hev : ∀ {S : Cells} {w : World} {r : Rho} {a : Act}, (∀ x, Rel S w r (evF F x) (a.eval x)) → ∀ x ∈ o.op.operands.toList, Rel S w r (e x) (a.eval x) := fun hr x hx => he x hx ▸ hr x
  split at hs
  case _ x ho =>
    refine stepAt_of hd fun a w S r hH hI hr => ?_
    have hx := hev hr x (by simp [ho, Op.operands])
    cases hs
    exact fin_value hH hI rfl (by simp [execOp, ho]) hx
  case _ x ho =>
    refine stepAt_of hd fun a w S r hH hI hr => ?_
    have hx := hev hr x (by simp [ho, Op.operands])
    cases hs
    exact fin_value hH hI rfl (by simp [execOp, ho]) hx
  case _ c x y ho =>
    refine stepAt_of hd fun a w S r hH hI hr => ?_
    obtain ⟨c', h1, h2, h3⟩ := pickD_sound hs (hev hr c (by simp [ho, Op.operands])) (hev hr x (by simp [ho, Op.operands])) (hev hr y (by simp [ho, Op.operands]))
    exact fin_value hH hI h3 (by simp [execOp, ho, h1, asBool]) h2
  case _ op t x y yt ho =>
    refine stepAt_of hd fun a w S r hH hI hr => ?_
    obtain ⟨v, h1, h2, h3⟩ := binD_sound (P := P) (x := x) (y := y) hs hp (hev hr x (by simp [ho, Op.operands])) (hev hr y (by simp [ho, Op.operands]))
    refine fin_value hH hI h3 ?_ h2
    simp only [execOp, ho, Sem.run_bind] at h1 ⊢
    rw [h1]
    rfl
  case _ op t x ho =>
    refine stepAt_of hd fun a w S r hH hI hr => ?_
    have hx := hev hr x (by simp [ho, Op.operands])
    unfold unD at hs
    split at hs <;> first | (cases hs; done) | skip
    · rename_i c hc
      cases hs
      rw [hc] at hx
      generalize hv : a.eval x = vx at hx
      cases hx
      exact fin_value hH hI rfl (by simp [execOp, ho, hv, Op.unary]) (.b ..)
    · rename_i k m hc
      rw [hc] at hx
      generalize hv : a.eval x = vx at hx
      cases hx
      obtain ⟨h1, h2⟩ := addK_sound (S := S) (w := w) (r := r) hs hp
      refine fin_value hH hI h2 ?_ h1
      simp [execOp, ho, hv, Op.unary, Op.intArith]
  case _ t1 t2 x ho =>
    have hop := he x (by simp [ho, Op.operands])
    unfold convertD at hs
    refine stepAt_of hd fun a w S r hH hI hr => ?_
    have hx := hev hr x (by simp [ho, Op.operands])
    generalize hv : a.eval x = vx at hx
    have hrun : ∀ v, (convert t1 t2 vx).run P w = .ok v w → (execOp a.eval o).run P w = .ok (.value v) w := fun v h => by simp [execOp, ho, hv, h]
    generalize e x = dx at hs hx
    split at hs
    · split at hs <;> first | (cases hs; done) | skip
      rename_i k n' k1 k2 h1 h2
      cases hs
      cases hx
      exact fin_value hH hI rfl (hrun _ (by simp [convert, run_underlying (tyOf_int h1), run_underlying (tyOf_int h2), Conv.intToInt])) (.i ..)
    · split at hs <;> first | (cases hs; done) | skip
      · rename_i l h1 h2
        cases hs
        cases hx
        exact fin_value hH hI rfl (hrun _ (by simp [convert, run_underlying (tyOf_str h1), run_underlying (tyOf_str h2)])) (.s ..)
      · rename_i l el g by' h1 h2
        split at hs <;> first | (cases hs; done) | skip
        rename_i h3
        cases hs
        cases hx
        obtain ⟨v, w', S', r', g1, g2, g3, g4, g5, g6, g7⟩ := bytes_of_string (P := P) hH hI (tyOf_str h1) (tyOf_slice h2).1 (tyOf_int h3) hp
        exact ⟨v, w', S', r', .inl (by simp [execOp, ho, hv, g1]), g2, g3, g4, g5, g6, g7⟩
    · split at hs <;> first | (cases hs; done) | skip
      rename_i h1 h2
      split at hs <;> first | (cases hs; done) | skip
      rename_i h3
      cases hs
      cases hx
      have := run_convert_bytes_string w t1 t2 _ none 0 0 (tyOf_slice h1).1 (tyOf_int h3) (tyOf_str h2)
      exact fin_value hH hI rfl (hrun (.string .empty) (by rw [this]; simp [Conv.bytesToString])) (.s ..)
    · split at hs <;> first | (cases hs; done) | skip
      rename_i h1 h2
      split at hs <;> first | (cases hs; done) | skip
      rename_i h3
      cases hs
      obtain ⟨rfl, hf⟩ := hp
      obtain ⟨v', g1, g2⟩ := bytes_string (tyOf_slice h1).1 (tyOf_int h3) (tyOf_str h2) hx hf
      exact fin_value hH hI rfl (hrun _ g1) g2
    · split at hs <;> first | (cases hs; done) | skip
      rename_i h1 h2
      split at hs <;> first | (cases hs; done) | skip
      rename_i h3
      cases hs
      obtain ⟨rfl, hf⟩ := hp
      obtain ⟨v', g1, g2⟩ := bytes_string (tyOf_slice h1).1 (tyOf_int h3) (tyOf_str h2) hx.shut hf
      exact fin_value hH hI rfl (hrun _ g1) g2
    · cases hs
  case _ t x ix ho =>
    refine stepAt_of hd fun a w S r hH hI hr => ?_
    obtain ⟨v, h1, h2, h3⟩ := idxD_sound hs hp (hev hr x (by simp [ho, Op.operands])) (hev hr ix (by simp [ho, Op.operands]))
    exact fin_value hH hI h3 (by simp [execOp, ho, h1]) h2
  case _ t x ix ho =>
    refine stepAt_of hd fun a w S r hH hI hr => ?_
    obtain ⟨v, h1, h2, h3⟩ := idxAddrD_sound hs hp (hev hr x (by simp [ho, Op.operands])) (hev hr ix (by simp [ho, Op.operands]))
    exact fin_value hH hI h3 (by simp [execOp, ho, h1]) h2
  case _ t x j ho =>
    refine stepAt_of hd fun a w S r hH hI hr => ?_
    obtain ⟨v, h1, h2, h3⟩ := fieldAddrD_sound hs (hev hr x (by simp [ho, Op.operands]))
    exact fin_value hH hI h3 (by simp [execOp, ho, h1]) h2
  case _ t x j ho =>
    refine stepAt_of hd fun a w S r hH hI hr => ?_
    obtain ⟨v, h1, h2, h3⟩ := fieldD_sound hs hp (hev hr x (by simp [ho, Op.operands]))
    exact fin_value hH hI h3 (by simp [execOp, ho, h1]) h2
  case _ t x ho =>
    refine stepAt_of hd fun a w S r hH hI hr => ?_
    have hx := hev hr x (by simp [ho, Op.operands])
    unfold loadD at hs
    try simp only [fz_eq] at hs
    split at hs <;> first | (cases hs; done) | skip
    rename_i z hz
    split at hs <;> first | (cases hs; done) | skip
    · rename_i cs off hc
      cases hs
      rw [hc] at hx
      generalize hv : a.eval x = vx at hx
      cases hx with
      | rf _ _ _ b o' c hpl hcell hrel =>
        obtain ⟨v, g1, g2⟩ := run_load_part (P := P) (r := r) hz hp (fun j hj => (hcell j hj).2) (fun j hj => (hrel j hj).plain (by
          rw [List.all_eq_true] at hpl
          refine hpl _ ?_
          simp only [List.getD_eq_getElem?_getD, List.getElem?_eq_getElem hj, Option.getD_some]
          exact List.getElem_mem hj) r)
        exact fin_value hH hI rfl (v := v) (by simp [execOp, ho, hv, g1]) g2
    · rename_i k off hc
      split at hs <;> first | (cases hs; done) | skip
      rename_i cs hcs
      cases hs
      rw [hc] at hx
      generalize hv : a.eval x = vx at hx
      cases hx with
      | pv _ _ _ b hb =>
        have hk : O k = some (.var cs) := (hO k (by simp)).trans hcs
        obtain ⟨b', cur, e', g1, g2, g3, g4, g5⟩ := hI.obj k _ hk
        rw [hb] at g1
        cases g1
        obtain ⟨v, q1, q2⟩ := run_load_part (P := P) (o := 0) (b := b) (off := off) (c := fun j => cur.getD j undef) hz hp (fun j hj => by
          rw [Nat.zero_add, cell_of_row w b j cur e' (0, 0) g2]
          have : j < cur.size := by omega
          simp [Array.getD_eq_getD_getElem?, this]) (fun j hj => (g4 j hj).1)
        rw [Nat.zero_add] at q1
        exact fin_value hH hI rfl (by simp [execOp, ho, hv, q1]) q2
    · rename_i k len f off hc
      rw [hc] at hx
      generalize hv : a.eval x = vx at hx
      cases hx with
      | rn _ _ _ _ _ b hcell =>
        obtain ⟨g1, g2⟩ := run_load_tab (P := P) (S := S) (w := w) (r := r) (off := off) (b := b) hz (fun j hj => (hcell j hj).2)
        simp only [fzL_eq] at hs
        split at hs
        · rename_i hg
          cases hs
          obtain ⟨v, q1, q2⟩ := g1 hg hp
          exact fin_value hH hI rfl (by simp [execOp, ho, hv, q1]) q2
        · rename_i hg
          cases hs
          obtain ⟨v, q1, q2⟩ := g2 hg hp
          exact fin_value hH hI rfl (by simp [execOp, ho, hv, q1]) q2
    · rename_i k en len i off hc
      split at hs <;> first | (cases hs; done) | skip
      rename_i el e' L f hcs
      cases hs
      obtain ⟨h1, h2, h3, h4⟩ := hp
      subst h1 h2
      rw [hc] at hx
      generalize hv : a.eval x = vx at hx
      cases hx with
      | ap _ _ _ _ _ _ ad tv L' hk' hL hta hag =>
        have hk : O k = some (.arr el en len f) := (hO k (by simp)).trans hcs
        obtain ⟨tv', g1, g2⟩ := hI.obj k _ hk
        rw [hk'] at g1
        cases g1
        obtain ⟨g, cap, htv, rfl⟩ := hta rfl
        rcases g2 with ⟨e1, e2⟩ | ⟨g', cap', cur, e1, g2, g3, g4, g5, g6, g7, g8⟩
        · omega
        rw [htv] at e1
        cases e1
        obtain ⟨v, q1, q2⟩ := run_load_part (P := P) (o := i * en) (b := g) (off := off) (c := fun j => cur.getD (i * en + j) undef) (r := noRho) hz h4 (fun j hj => by
          rw [cell_of_row w g _ cur el (0, 0) g2]
          have hfl := (g6 i h3).1
          have : (i + 1) * en ≤ cap * en := Nat.mul_le_mul_right en (by omega)
          rw [Nat.add_mul] at this
          have : i * en + j < cur.size := by omega
          simp [Array.getD_eq_getD_getElem?, this]) (fun j hj => g7 i j h3 (by rw [(g6 i h3).1] at hj; exact hj))
        exact fin_value hH hI rfl (by simp [execOp, ho, hv, q1]) (q2.mono (fun _ _ h => h) (fun _ _ _ => rfl) r (fun k l h => by simp [noRho] at h))
  case _ t x y ho =>
    refine stepAt_of hd fun a w S r hH hI hr => ?_
    have hx := hev hr x (by simp [ho, Op.operands])
    have hy := hev hr y (by simp [ho, Op.operands])
    split at hs
    · rename_i hq1 hq2
      unfold storeA at hs
      simp only [fz_eq] at hs
      split at hs <;> first | (cases hs; done) | skip
      rename_i z k en len i off hz hc
      split at hs <;> first | (cases hs; done) | skip
      rename_i el e' L f hcs
      cases hs
      obtain ⟨h1, h2, h3, h4, h5, h6, h7⟩ := hp
      subst h2
      rw [hc] at hx
      have hk : O k = some (.arr el en L f) := (hO k (by simp)).trans hcs
      obtain ⟨w', g1, g2, g3, g4⟩ := storeA_ok (P := P) hH hI hx hy hz hk h1 h3 h4 h5 h6 h7
      exact ⟨undef, w', S, r, .inr ⟨by simp [execOp, ho, g1], rfl⟩, .any .., g2, g3, fun _ _ h => h, g4, RhoLe.refl r⟩
    unfold storeD at hs
    simp only [fz_eq, fzA_eq] at hs
    split at hs <;> first | (cases hs; done) | skip
    rename_i z k off hz hc
    split at hs <;> first | (cases hs; done) | skip
    rename_i cs hcs
    cases hs
    rw [hc] at hx
    have hk : O k = some (.var cs) := (hO k (by simp)).trans hcs
    obtain ⟨h1, h2, h3, h4⟩ := hp
    obtain ⟨w', g1, g2, g3, g4⟩ := store_ok (P := P) hH hI hx hy hz hk h1 h2 h3 h4
    exact ⟨undef, w', S, r, .inr ⟨by simp [execOp, ho, g1], rfl⟩, .any .., g2, g3, fun _ _ h => h, g4, RhoLe.refl r⟩
  case _ t ho =>
    split at hs <;> first | (cases hs; done) | skip
    rename_i d hz
    obtain ⟨i, zv, h1, h2, rfl⟩ := zeroD_spec hz
    unfold boxD at hs
    simp only [fz_eq, fzA_eq] at hs
    split at hs <;> first | (cases hs; done) | skip
    rename_i k hdst
    split at hs <;> first | (cases hs; done) | skip
    rename_i hk
    cases hs
    refine stepAt_of hd fun a w S r hH hI hr => ?_
    have hk' : O k = none := (hO k (by simp)).trans hk
    obtain ⟨S', r', g1, g2, g3, g4, g5, g6⟩ := box_ok t hH hI (ofVal_rel S w r zv) hp.1 hp.2 hk'
    refine ⟨_, _, S', r', .inl ?_, g1, g2, g3, g4, g5, g6⟩
    simp [execOp, ho, Instr.alloc, zeroValue, typeInfo, h1, h2, newVar, newRow]
  case _ t x ho =>
    unfold boxD at hs
    simp only [fz_eq, fzA_eq] at hs
    split at hs <;> first | (cases hs; done) | skip
    rename_i k hdst
    split at hs <;> first | (cases hs; done) | skip
    rename_i hk
    cases hs
    refine stepAt_of hd fun a w S r hH hI hr => ?_
    have hx := hev hr x (by simp [ho, Op.operands])
    have hk' : O k = none := (hO k (by simp)).trans hk
    obtain ⟨S', r', g1, g2, g3, g4, g5, g6⟩ := box_ok t hH hI hx hp.1 hp.2 hk'
    refine ⟨_, _, S', r', .inl ?_, g1, g2, g3, g4, g5, g6⟩
    simp [execOp, ho, Instr.box, newVar, newRow]
  case _ t parts ho =>
    refine stepAt_of hd fun a w S r hH hI hr => ?_
    have hpt := parts_of (S := S) (w := w) (r := r) (e := e) (ρ := a.eval) parts.toList (fun i x hx => hev hr x (by
      simp only [ho, Op.operands, Array.toList_map, List.mem_map]
      exact ⟨(i, x), hx, rfl⟩))
    obtain ⟨v, h1, h2, h3⟩ := buildD_sound (P := P) hs hpt
    refine fin_value hH hI h3 ?_ h2
    have e' : ((parts.toList.map fun (i, x) => (i, a.eval x)).toArray : Array (Nat × Value)) = parts.map fun (i, x) => (i, a.eval x) := by
      apply Array.ext'
      simp
    rw [e'] at h1
    simp [execOp, ho, h1]
  case _ t len parts ho =>
    unfold buildSliceD at hs
    simp only [fzA_eq] at hs
    split at hs <;> first | (cases hs; done) | skip
    rename_i k el z g by' hdst ht
    split at hs <;> first | (cases hs; done) | skip
    rename_i zd cs hk hz hfill
    cases hs
    refine stepAt_of hd fun a w S r hH hI hr => ?_
    have hpt := parts_of (S := S) (w := w) (r := r) (e := fun x => (e x).shutA) (ρ := a.eval) parts.toList (fun i x hx => (hev hr x (by
      simp only [ho, Op.operands, Array.toList_map, List.mem_map]
      exact ⟨(i, x), hx, rfl⟩)).shutA)
    have hk' : O k = none := (hO k (by simp)).trans hk
    obtain ⟨v, w', g0, S', r', g1, g2, g3, g4, g5, g6⟩ := buildSlice_ok ar (P := P) hH hI ht hz hfill hpt hp.1 hp.2.1 hp.2.2 hk'
    refine ⟨v, w', S', r', .inl ?_, g1, g2, g3, g4, g5, g6⟩
    have e' : ((parts.toList.map fun (i, x) => (i, a.eval x)).toArray : Array (Nat × Value)) = parts.map fun (i, x) => (i, a.eval x) := by
      apply Array.ext'
      simp
    rw [e'] at g0
    simp [execOp, ho, g0]
  case _ x j ho =>
    refine stepAt_of hd fun a w S r hH hI hr => ?_
    have hx := hev hr x (by simp [ho, Op.operands])
    unfold extractD at hs
    try simp only [fz_eq] at hs
    split at hs <;> first | (cases hs; done) | skip
    rename_i vs hc
    split at hs <;> first | (cases hs; done) | skip
    rename_i d hj
    cases hs
    rw [hc] at hx
    generalize hv : a.eval x = vx at hx
    cases hx with
    | tu _ _ us hn h =>
      have hlt : j < vs.length := (List.getElem?_eq_some_iff.1 hj).1
      obtain ⟨u, hu, hru⟩ := rel_getD hn h hlt
      have : vs.getD j .any = d := by simp [List.getD_eq_getElem?_getD, hj]
      rw [this] at hru
      exact fin_value hH hI rfl (by simp [execOp, ho, hv, Instr.extract, hu]) hru
  case _ x ho =>
    refine stepAt_of hd fun a w S r hH hI hr => ?_
    have hx := hev hr x (by simp [ho, Op.operands])
    unfold nilCheckD at hs
    split at hs <;> first | (cases hs; done) | skip
    · rename_i k o' hc
      cases hs
      rw [hc] at hx
      generalize hv : a.eval x = vx at hx
      cases hx with
      | pv _ _ _ b hb => exact fin_value hH hI rfl (by simp [execOp, ho, hv]) (.pv _ _ _ b hb)
    · rename_i k o' hc
      cases hs
      rw [hc] at hx
      generalize hv : a.eval x = vx at hx
      cases hx with
      | rf _ _ _ b o2 c h1 h2 h3 => exact fin_value hH hI rfl (by simp [execOp, ho, hv]) (.rf _ _ _ b o2 c h1 h2 h3)
    · rename_i k1 k2 k3 k4 k5 hc
      cases hs
      rw [hc] at hx
      generalize hv : a.eval x = vx at hx
      cases hx with
      | ap _ _ _ _ _ _ ad tv L' hk' hL hta hag => exact fin_value hH hI rfl (by simp [execOp, ho, hv]) (.ap _ _ _ _ _ _ ad tv L' hk' hL hta hag)
  case _ t x lo hi ho =>
    refine stepAt_of hd fun a w S r hH hI hr => ?_
    have hx := hev hr x (by simp [ho, Op.operands])
    have hlo : ∀ y, lo = some y → Rel S w r (e y) (a.eval y) := fun y hy => hev hr y (by simp [ho, Op.operands, hy])
    have hhi : ∀ y, hi = some y → Rel S w r (e y) (a.eval y) := fun y hy => hev hr y (by simp [ho, Op.operands, hy])
    unfold sliceD at hs
    split at hs <;> first | (cases hs; done) | skip
    · rename_i l hc ht
      split at hs <;> first | (cases hs; done) | skip
      rename_i n' m hb
      cases hs
      obtain ⟨h0, h1, h2⟩ := hp
      rw [hc] at hx
      generalize hv : a.eval x = vx at hx
      cases hx
      have hbs := boundsD_sound (P := P) (isSlice := false) (cap := l.length) hb hlo hhi h0 h1 h2 (Nat.le_refl _)
      have hsz : (ByteArray.mk l.toArray).size = l.length := by simp [ByteArray.size]
      refine fin_value hH hI rfl (v := .string ((ByteArray.mk l.toArray).extract n'.toNat m.toNat)) ?_ ?_
      · have hna : ∀ k e', TypeDesc.string ≠ .array k e' := fun _ _ => by simp
        simp [execOp, ho, hv, Instr.sliceAt, Instr.slice, run_underlying (tyOf_str ht), hsz, hbs]
      · have : (ByteArray.mk l.toArray).extract n'.toNat m.toNat = ⟨((l.take m.toNat).drop n'.toNat).toArray⟩ := by
          apply ByteArray.ext
          simp [List.drop_take]
        rw [this]
        exact .s ..
    · rename_i z len f el z' g by' hc ht
      split at hs <;> first | (cases hs; done) | skip
      rename_i n' m hb
      cases hs
      obtain ⟨h0, h1, h2, rfl⟩ := hp
      rw [hc] at hx
      obtain ⟨va, cap, c, hv, hcap, _⟩ := sl_cells hx
      rw [hv] at hx
      have hbs := boundsD_sound (P := P) (isSlice := true) (cap := cap) hb hlo hhi h0 h1 h2 hcap
      obtain ⟨hu, hz, _⟩ := tyOf_slice ht
      have hsub := sub_slice hx (lo := n'.toNat) (hi := m.toNat) (by omega) (by omega)
      refine fin_value hH hI rfl ?_ hsub
      simp [execOp, ho, hv, Instr.sliceAt, Instr.slice, run_underlying hu, hbs, run_sizeOf (w := w) hz]
    · rename_i k z len f el z' g by' hc ht
      split at hs <;> first | (cases hs; done) | skip
      rename_i n' m hb
      cases hs
      obtain ⟨h0, h1, h2, rfl⟩ := hp
      rw [hc] at hx
      have hx := hx.shut
      obtain ⟨va, cap, c, hv, hcap, _⟩ := sl_cells hx
      rw [hv] at hx
      have hbs := boundsD_sound (P := P) (isSlice := true) (cap := cap) hb hlo hhi h0 h1 h2 hcap
      obtain ⟨hu, hz, _⟩ := tyOf_slice ht
      have hsub := sub_slice hx (lo := n'.toNat) (hi := m.toNat) (by omega) (by omega)
      refine fin_value hH hI rfl ?_ hsub
      simp [execOp, ho, hv, Instr.sliceAt, Instr.slice, run_underlying hu, hbs, run_sizeOf (w := w) hz]
  case _ t x hi mx ho =>
    refine stepAt_of hd fun a w S r hH hI hr => ?_
    have hx := hev hr x (by simp [ho, Op.operands])
    have h1 := hev hr hi (by simp [ho, Op.operands])
    have h2 := hev hr mx (by simp [ho, Op.operands])
    obtain ⟨v, g1, g2, g3⟩ := slice0D_sound (P := P) (lo := none) (vl := .int .i64 0) hs hp hx (.i ..) h1 h2 (fun _ => trivial)
    exact fin_value hH hI g3 (by simp [execOp, ho, g1]) g2
  case _ t x lo hi mx ho =>
    refine stepAt_of hd fun a w S r hH hI hr => ?_
    have hx := hev hr x (by simp [ho, Op.operands])
    have h0 := hev hr lo (by simp [ho, Op.operands])
    have h1 := hev hr hi (by simp [ho, Op.operands])
    have h2 := hev hr mx (by simp [ho, Op.operands])
    obtain ⟨v, g1, g2, g3⟩ := slice0D_sound (P := P) (lo := some (a.eval lo)) (vl := undef) hs hp hx h0 h1 h2 (fun _ => trivial)
    exact fin_value hH hI g3 (by simp [execOp, ho, g1]) g2
  case _ t l c ho =>
    unfold makeD at hs
    simp only [fzA_eq] at hs
    split at hs <;> first | (cases hs; done) | skip
    rename_i k el z gg by' k1 n1 k2 n2 hdst ht hl hc
    split at hs <;> first | (cases hs; done) | skip
    rename_i zd hk hz
    cases hs
    obtain ⟨h1, h2, h3, h4, h5, h6, h7, h8⟩ := hp
    refine stepAt_of hd fun a w S r hH hI hr => ?_
    have hrl := hev hr l (by simp [ho, Op.operands])
    have hrc := hev hr c (by simp [ho, Op.operands])
    rw [hl] at hrl
    rw [hc] at hrc
    generalize hvl : a.eval l = vl at hrl
    generalize hvc : a.eval c = vc at hrc
    cases hrl
    cases hrc
    have hk' : O k = none := (hO k (by simp)).trans hk
    obtain ⟨v, w', g0, S', r', g1, g2, g3, g4, g5, g6⟩ := make_ok (P := P) (kl := k1) (kc := k2) hH hI ht hz hk' h1 h2 h3 h4 h5 h6 h7 h8
    exact ⟨v, w', S', r', .inl (by simp [execOp, ho, hvl, hvc, g0]), g1, g2, g3, g4, g5, g6⟩
  case _ f cs ho =>
    simp only [fzA_eq] at hs
    cases hs
    refine stepAt_of hd fun a w S r hH hI hr => ?_
    refine fin_value hH hI rfl (v := .func (.func f) #[] (cs.map a.eval).toArray) (by simp [execOp, ho, Instr.makeFunc]) ?_
    refine .fn _ f _ _ (by simp) (fun j hj => ?_)
    have hj' : j < cs.length := by simpa using hj
    have hx := hev hr cs[j] (by simp [ho, Op.operands])
    simpa [Array.getD_eq_getD_getElem?, List.getD_eq_getElem?_getD, hj'] using hx
  case _ x t ho =>
    refine stepAt_of hd fun a w S r hH hI hr => ?_
    obtain ⟨v, h1, h2, h3⟩ := lenD_sound (P := P) (ty := o.type) hs (hev hr x (by simp [ho, Op.operands, Call.operands]))
    exact fin_value hH hI h3 (by simp [execOp, ho, resolve, invoke, builtin, h1]) h2
  case _ x y t t2 ho =>
    have hmx : x ∈ o.op.operands.toList := by simp [ho, Op.operands, Call.operands]
    have hmy : y ∈ o.op.operands.toList := by simp [ho, Op.operands, Call.operands]
    unfold appendD at hs
    split at hs <;> first | (cases hs; done) | skip
    rename_i el z g by' ht
    obtain ⟨hu, hz, it, hi1, hi2, hi3⟩ := tyOf_slice ht
    split at hs <;> first | (cases hs; done) | skip
    rename_i e2 m gf hzo hsrc
    obtain ⟨zv, hzv, hzs⟩ : ∃ zv, it.zero = some zv ∧ zv.cells.size = z := by
      unfold zeroOk at hzo
      split at hzo
      · rename_i zd hzd
        simp only [Bool.and_eq_true] at hzo
        obtain ⟨ii, zv, hii, hzv, rfl⟩ := zeroD_spec hzd
        rw [hi1] at hii
        cases hii
        refine ⟨zv, hzv, ?_⟩
        rw [(rel_cells (ofVal_rel (fun _ _ => False) default noRho zv) hzo.2).1]
        exact Nat.eq_of_beq_eq_true hzo.1
      · cases hzo
    have hflat0 : ∀ c : Nat → Nat → Value, flat e2 0 c = [] := fun c => by simp [flat]
    have hnew : (∀ {S : Cells} {w : World} {r : Rho} {a : Act}, (∀ x, Rel S w r (evF F x) (a.eval x)) → ∃ ax, a.eval x = .slice ax 0 0) → appendN ar own o.dst el z by' e2 m gf = some s → StepAt P X n o F O s.d s.wr := by
      intro hv hs
      unfold appendN at hs
      split at hs <;> first | (cases hs; done) | skip
      rename_i k hdst
      split at hs <;> first | (cases hs; done) | skip
      rename_i hk
      cases hs
      obtain ⟨h1, h6, h7, h8⟩ := hp
      subst h1
      have hk' : O k = none := (hO k (by simp)).trans hk
      refine stepAt_of hd fun a w S r hH hI hr => ?_
      obtain ⟨ax, hax⟩ := hv hr
      obtain ⟨c2, q1, q2, q3⟩ := srcD_sound (P := P) hsrc hu (hev hr y hmy) h6
      rcases Nat.eq_zero_or_pos m with rfl | hm0
      · rw [hflat0] at q1
        obtain ⟨v, w', g0, S', r', g1, g2, g3, g4, g5, g6⟩ := append_zero_new ar (P := P) (ty := o.type) (z := e2) (g := gf) (ax := ax) hH hI hu hi1 (by rw [hi2]; exact q1) hk'
        exact ⟨v, w', S', r', .inl (by simp [execOp, ho, resolve, invoke, builtin, hax, g0]), g1, g2, g3, g4, g5, g6⟩
      · obtain ⟨v, w', g0, S', r', g1, g2, g3, g4, g5, g6⟩ := append_ok ar (P := P) (ty := o.type) (L := 0) (capx := 0) (ax := ax) (f := gf) (g := gf) (c1 := fun _ _ => undef) hH hI hu hi1 hi2 hzv hzs h6 (Nat.le_refl _) (fun i hi => by omega) (fun i j hi => by omega) (fun i j hi => by omega)
          q1 q2 q3 hm0 (by unfold maxLen; omega) (by rw [hi3, Nat.zero_add]; exact h8) (.inl ⟨hk', rfl, rfl⟩)
        rw [catF_from gf gf m rfl, Nat.zero_add] at g1 g3
        exact ⟨v, w', S', r', .inl (by simp [execOp, ho, resolve, invoke, builtin, hax, g0]), g1, g2, g3, g4, g5, g6⟩
    split at hs
    · rename_i k en nn f hx0
      split at hs <;> first | (cases hs; done) | skip
      rename_i el' e' L hk
      cases hs
      obtain ⟨h1, h2, h3, h4, h5, h6, h7, h8⟩ := hp
      subst h1 h2 h4 h5
      have hk' : O k = some (mkO false el' e' nn f) := (hO k (by simp)).trans hk
      subst h3
      refine stepAt_of hd fun a w S r hH hI hr => ?_
      have hx := hev hr x hmx
      rw [hx0] at hx
      obtain ⟨c2, q1, q2, q3⟩ := srcD_sound (P := P) hsrc hu (hev hr y hmy) h6
      obtain ⟨ax, capx, c1, hax, hcx, hmx', hl1, hr1, hcell1⟩ := sl_cells hx.shut
      have htip : ∀ tv, r k = some (.row tv nn) → Tip (.slice ax nn capx) tv := fun tv htv => by
        rw [hax] at hx
        cases hx with
        | gs _ _ _ _ _ _ tv' L' h hk0 hL ht =>
          rw [htv] at hk0
          cases hk0
          exact ht rfl
      rcases Nat.eq_zero_or_pos m with rfl | hm0
      · rw [hflat0] at q1
        have hrun := append_none_run (P := P) (w := w) (ty := o.type) (base := ax) hu hi1 hcx (by rw [hi2]; exact q1)
        refine ⟨.slice ax nn capx, w, S, r, .inl (by simp [execOp, ho, resolve, invoke, builtin, hax, hrun]), ?_, hH, ?_, fun _ _ h => h, fun _ _ _ => rfl, RhoLe.refl r⟩
        · rw [← hax, catF_zero]
          exact hx
        · have e2 := updO_put hk'
          simp only [mkO] at e2
          show Inv X w S r (updO O [(k, Own.row el' e' (nn + 0))])
          rw [Nat.add_zero, e2]
          exact hI
      · obtain ⟨v, w', g0, S', r', g1, g2, g3, g4, g5, g6⟩ := append_ok false (P := P) (ty := o.type) (capx := capx) (ax := ax) hH hI hu hi1 hi2 hzv hzs h6 hcx hl1 hr1 (fun i j hi hj => by
            obtain ⟨b, o', w1, _, w2⟩ := hcell1 i j hi hj
            exact ⟨b, o', w1, w2⟩) q1 q2 q3 hm0 (by unfold maxLen; omega) (by rw [hi3]; exact h8) (.inr ⟨hk', htip⟩)
        exact ⟨v, w', S', r', .inl (by simp [execOp, ho, resolve, invoke, builtin, hax, g0]), g1, g2, g3, g4, g5, g6⟩
    · rename_i k en nn hx0
      split at hs <;> first | (cases hs; done) | skip
      rename_i el' e' L f hk
      cases hs
      obtain ⟨h1, h2, h3, h4, h5, h6, h7, h8⟩ := hp
      subst h1 h2 h4 h5
      have hk' : O k = some (mkO true el' e' nn f) := (hO k (by simp)).trans hk
      subst h3
      refine stepAt_of hd fun a w S r hH hI hr => ?_
      have hx := hev hr x hmx
      rw [hx0] at hx
      obtain ⟨c2, q1, q2, q3⟩ := srcD_sound (P := P) hsrc hu (hev hr y hmy) h6
      obtain ⟨tv0, htv0, hrow⟩ := hI.obj k _ hk'
      generalize hax : a.eval x = vx at hx
      cases hx with
      | ah _ _ _ _ capx ax tv' L' hk0 hL hta hag =>
        rw [hk0] at htv0
        cases htv0
        have htip : ∀ tv, r k = some (.row tv nn) → Tip (.slice ax nn capx) tv := fun tv htv => by
          rw [hk0] at htv
          cases htv
          exact hta rfl
        -- the elements' cells
        have hcells : nn ≤ capx ∧ ∃ c1 : Nat → Nat → Value, (∀ i, i < nn → (f i).length = e' ∧ (f i).all D.plain = true) ∧ (∀ i j, i < nn → j < e' → Rel S w noRho ((f i).getD j .any) (c1 i j)) ∧
            (∀ i j, i < nn → j < e' → ∃ b o, ax = some ⟨b, o, none⟩ ∧ w.cell? ⟨b, o + i * e' + j, none⟩ = some (c1 i j)) := by
          rcases hrow with ⟨_, rfl⟩ | ⟨g, cap, cur, rfl, w1, w2, w3, w4, w5, w6, w7⟩
          · exact ⟨Nat.zero_le _, fun _ _ => undef, fun i hi => by omega, fun i j hi => by omega, fun i j hi => by omega⟩
          · rcases hta rfl with e1 | ⟨e1, _⟩
            · cases e1
              refine ⟨w2, fun i j => cur.getD (i * e' + j) undef, w5, w6, fun i j hi hj => ⟨g, 0, rfl, ?_⟩⟩
              rw [Nat.zero_add, cell_of_row w g _ cur el' (0, 0) w1]
              have : (i + 1) * e' ≤ capx * e' := Nat.mul_le_mul_right e' (by omega)
              rw [Nat.add_mul] at this
              have : i * e' + j < cur.size := by omega
              simp [Array.getD_eq_getD_getElem?, this]
            · cases e1
        obtain ⟨hcx, c1, hl1, hr1, hcell1⟩ := hcells
        rcases Nat.eq_zero_or_pos m with rfl | hm0
        · rw [hflat0] at q1
          have hrun := append_none_run (P := P) (w := w) (ty := o.type) (base := ax) hu hi1 hcx (by rw [hi2]; exact q1)
          refine ⟨_, w, S, r, .inl (by simp [execOp, ho, resolve, invoke, builtin, hax, hrun]), .ah _ _ _ _ capx ax _ _ hk0 hL hta hag, hH, ?_, fun _ _ h => h, fun _ _ _ => rfl, RhoLe.refl r⟩
          have e2 := updO_put hk'
          simp only [mkO] at e2
          show Inv X w S r (updO O [(k, Own.arr el' e' (nn + 0) (catF nn f 0 gf))])
          rw [Nat.add_zero, catF_zero, e2]
          exact hI
        · obtain ⟨v, w', g0, S', r', g1, g2, g3, g4, g5, g6⟩ := append_ok true (P := P) (ty := o.type) (capx := capx) (ax := ax) hH hI hu hi1 hi2 hzv hzs h6 hcx hl1 hr1 hcell1 q1 q2 q3 hm0 (by unfold maxLen; omega) (by rw [hi3]; exact h8) (.inr ⟨hk', htip⟩)
          exact ⟨v, w', S', r', .inl (by simp [execOp, ho, resolve, invoke, builtin, hax, g0]), g1, g2, g3, g4, g5, g6⟩
    · rename_i hx0
      refine hnew (fun {S w r a} hr => ?_) hs
      have hx := hev hr x hmx
      rw [hx0] at hx
      generalize a.eval x = vx at hx
      cases hx
      exact ⟨_, rfl⟩
    · rename_i z' hx0
      split at hs <;> first | (cases hs; done) | skip
      refine hnew (fun {S w r a} hr => ?_) hs
      have hx := hev hr x hmx
      rw [hx0] at hx
      generalize a.eval x = vx at hx
      cases hx
      exact ⟨_, rfl⟩
    · cases hs
  case _ x y ts ho =>
    refine stepAt_of hd fun a w S r hH hI hr => ?_
    obtain ⟨v, h1, h2, h3⟩ := maxD_sound (P := P) (a := ts) (ty := o.type) hs (hev hr x (by simp [ho, Op.operands, Call.operands])) (hev hr y (by simp [ho, Op.operands, Call.operands]))
    exact fin_value hH hI h3 (by simp [execOp, ho, resolve, invoke, builtin, h1]) h2
  case _ x y ts ho =>
    refine stepAt_of hd fun a w S r hH hI hr => ?_
    obtain ⟨v, h1, h2, h3⟩ := minD_sound (P := P) (a := ts) (ty := o.type) hs (hev hr x (by simp [ho, Op.operands, Call.operands])) (hev hr y (by simp [ho, Op.operands, Call.operands]))
    exact fin_value hH hI h3 (by simp [execOp, ho, resolve, invoke, builtin, h1]) h2
  case _ => cases hs

theorem step_sound {e : Operand → D} {s : Stp} (hs : step (tb P) e own o = some s) (hp : s.p) (hd : dstOk o.dst n) (he : ∀ x ∈ o.op.operands.toList, evF F x = e x) (hO : ∀ k ∈ s.rd, O k = own k) :
    StepAt P X n o F O s.d s.wr := stepK_sound hs hp hd he hO

end
end Go.Proofs.YtghdgjabpdfaoaaDoor.Flow

/-
  FLOW, PART J: A REGION WHOSE ORDER IS DRAWN: ONE CHAIN IN THE TEXT'S ORDER SERVES EVERY ORDER, where operations that clash are ordered by the edges.
-/
namespace Go.Proofs.YtghdgjabpdfaoaaDoor.Flow

/-- What an operation did: the datum for its temporary, the objects that it read, and what it made of objects. -/
structure Eff where
  d : D
  rd : List Nat
  wr : List (Nat × Own)

def dstAt : List Oper → Nat → Option Nat
  | [], _ => none
  | o :: _, 0 => o.dst
  | _ :: r, j + 1 => dstAt r j

theorem dstAt_eq : ∀ (l : List Oper) (j : Nat), dstAt l j = (l[j]?).bind (·.dst)
  | [], _ => by simp [dstAt]
  | o :: _, 0 => by simp [dstAt]
  | _ :: r, j + 1 => by simp [dstAt, dstAt_eq r j]

def tmpsOf : List Operand → List Nat
  | [] => []
  | .tmp t :: r => t :: tmpsOf r
  | .const _ :: r => tmpsOf r
  | .global _ :: r => tmpsOf r
  | .func _ :: r => tmpsOf r

theorem mem_tmpsOf {t : Nat} {l : List Operand} (h : .tmp t ∈ l) : t ∈ tmpsOf l := by
  induction l with
  | nil => cases h
  | cons x r ih =>
    cases x with
    | tmp u =>
      rcases List.mem_cons.1 h with e | e
      · cases e; simp [tmpsOf]
      · simp [tmpsOf, ih e]
    | const v => exact ih (by simpa using h)
    | global g => exact ih (by simpa using h)
    | func f => exact ih (by simpa using h)

/-- What an operation looks at: its operands' temporaries, and its guard's. -/
def seesOf (all : List Oper) (o : Oper) : List Nat :=
  tmpsOf o.op.operands.toList ++ (match o.guard with
    | some (g, _) => (dstAt all g).toList
    | none => [])

section
variable (P : Program) (X : Ctx) (n : Nat) (all : List Oper)

/-- In this frame, with these objects, the operation (if its guard lets it) does this. -/
def Does (o : Oper) (F : Nat → D) (O : Nat → Option Own) (e : Eff) : Prop :=
  match o.guard with
  | none => StepAt P X n o F O e.d e.wr
  | some (g, want) => ∃ t, dstAt all g = some t ∧ ((F t = .b want ∧ StepAt P X n o F O e.d e.wr) ∨ ((F t = .b (!want) ∨ F t = .tu []) ∧ e.d = .tu [] ∧ e.wr = [] ∧ dstOk o.dst n))

/-- .. and it does so wherever what it looks at is the same. -/
def LDoes (o : Oper) (F : Nat → D) (O : Nat → Option Own) (e : Eff) : Prop :=
  ∀ F' O', (∀ t ∈ seesOf all o, F' t = F t) → (∀ k ∈ e.rd, O' k = O k) → Does P X n all o F' O' e

/-- The operations in the text's order. -/
inductive Ch : List Oper → (Nat → D) → (Nat → Option Own) → List Eff → (Nat → D) → (Nat → Option Own) → Prop
  | nil (F : Nat → D) (O : Nat → Option Own) : Ch [] F O [] F O
  | cons (o : Oper) (rest : List Oper) (F : Nat → D) (O : Nat → Option Own) (e : Eff) (es : List Eff) (F' : Nat → D) (O' : Nat → Option Own) (h : LDoes P X n all o F O e)
      (t : Ch rest (updF F o.dst e.d) (updO O e.wr) es F' O') : Ch (o :: rest) F O (e :: es) F' O'
end

section
variable {P : Program} {X : Ctx} {n : Nat} {all : List Oper}

/-- An operation that comes up is carried out, or passed over. -/
theorem wpOp_of_does {ops : Array Oper} {Q : Exit → Act → World → Prop} {i : Nat} {o : Oper} {F : Nat → D} {O : Nat → Option Own} {e : Eff} {a : Act} {w : World} {K : Act → World → Prop}
    (ho : ops[i]? = some o) (hd : Does P X n ops.toList o F O e) (hr : Rep X n F O a w) (hK : ∀ a' w', Rep X n (updF F o.dst e.d) (updO O e.wr) a' w' → K a' w') : wpOp P ops Q i K a w := by
  unfold wpOp
  simp only [ho]
  unfold Does at hd
  cases hg : o.guard with
  | none =>
    simp only [hg] at hd
    simp only [Region.wanted, hg, if_true]
    exact .inl (hd a w K Q hr fun v w' h => hK _ _ h)
  | some q =>
    obtain ⟨g, want⟩ := q
    simp only [hg] at hd
    obtain ⟨t, ht, hd⟩ := hd
    have hy : yielded ops a.tmps g = (a.tmps[t]?).bind fun v => match v with | .bool b => some b | _ => none := by
      rw [dstAt_eq] at ht
      unfold yielded
      rw [← Array.getElem?_toList, ht]
      simp only [Option.bind_some]
      cases a.tmps[t]? with
      | none => rfl
      | some v => cases v <;> rfl
    have hyb : ∀ c, F t = .b c → yielded ops a.tmps g = some c := fun c hF => by
      obtain ⟨S, r, _, _, hrel, _, _, _⟩ := hr
      have h1 := hrel t
      rw [hF] at h1
      rw [hy]
      cases hq : a.tmps[t]? with
      | none =>
        rw [Array.getD_eq_getD_getElem?, hq] at h1
        simp only [Option.getD_none, undef] at h1
        cases h1
      | some v =>
        rw [Array.getD_eq_getD_getElem?, hq] at h1
        simp only [Option.getD_some] at h1
        cases h1
        rfl
    have hyn : F t = .tu [] → yielded ops a.tmps g = none := fun hF => by
      obtain ⟨S, r, _, _, hrel, _, _, _⟩ := hr
      have h1 := hrel t
      rw [hF] at h1
      rw [hy]
      cases hq : a.tmps[t]? with
      | none => rfl
      | some v =>
        rw [Array.getD_eq_getD_getElem?, hq] at h1
        simp only [Option.getD_some] at h1
        cases h1
        rfl
    rcases hd with ⟨hF, hd⟩ | ⟨hF, hd1, hd2, hd3⟩
    · simp only [Region.wanted, hg, hyb want hF, beq_self_eq_true, if_true]
      exact .inl (hd a w K Q hr fun v w' h => hK _ _ h)
    · have hw : Region.wanted o (yielded ops a.tmps) = false := by
        simp only [Region.wanted, hg]
        rcases hF with hF | hF
        · rw [hyb _ hF]
          cases want <;> rfl
        · rw [hyn hF]
          rfl
      rw [hw]
      simp only [Bool.false_eq_true, if_false]
      refine hK _ _ ?_
      rw [hd1, hd2]
      obtain ⟨S, r, hH, hI, hrel, hdf, hn, hρ⟩ := hr
      exact ⟨S, r, hH, hI, rel_put hrel (hn ▸ hd3) (.tu _ [] #[] rfl (fun j hj => by simp at hj)), by rw [put_defers]; exact hdf, by rw [put_size]; exact hn, hρ⟩

/-- In the text's order. -/
theorem wpOps_of_ch {ops : Array Oper} {Q : Exit → Act → World → Prop} : ∀ {l : List Oper} {k : Nat} {F : Nat → D} {O : Nat → Option Own} {es : List Eff} {F' : Nat → D} {O' : Nat → Option Own},
    Ch P X n ops.toList l F O es F' O' → (∀ j, l[j]? = ops[k + j]?) → (∀ a w, Rep X n F' O' a w → Q .normal a w) → ∀ a w, Rep X n F O a w → wpOps P ops Q (List.range' k l.length) a w
  | _, k, _, _, _, _, _, .nil F O, _, hQ, a, w, hr => by simpa [wpOps] using hQ a w hr
  | _, k, _, _, _, _, _, .cons o rest F O e es F' O' h t, hl, hQ, a, w, hr => by
    have h0 : ops[k]? = some o := by simpa using (hl 0).symm
    rw [List.length_cons, List.range'_succ, wpOps_cons]
    refine wpOp_of_does h0 (h F O (fun _ _ => rfl) (fun _ _ => rfl)) hr fun a' w' h' => ?_
    exact wpOps_of_ch t (fun j => by have := hl (j + 1); simpa [Nat.add_assoc, Nat.add_comm 1 j] using this) hQ a' w' h'

/-! ### Every order -/

/-- The operations that surely come ahead of each one, a bit for each. -/
def ancB (acc : List Nat) (l : List Edge) : Nat :=
  match l with
  | [] => 0
  | e :: r => match Region.binds .any e with
    | true => (2 ^ e.on ||| acc.getD e.on 0) ||| ancB acc r
    | false => ancB acc r

def ancs : List Oper → List Nat → List Nat
  | [], acc => acc
  | o :: r, acc => ancs r (acc ++ [ancB acc o.after.toList])

def meets (x y : List Nat) : Bool := x.any fun a => y.contains a

theorem meets_false {x y : List Nat} (h : meets x y = false) {a : Nat} (hx : a ∈ x) : a ∉ y := by
  intro hy
  have : meets x y = true := by
    unfold meets
    rw [List.any_eq_true]
    exact ⟨a, hx, by simpa using hy⟩
  rw [h] at this
  cases this

structure Foot where
  st : List Nat
  wt : List Nat
  so : List Nat
  wo : List Nat

/-- What one writes the other looks at, or writes. -/
def clash (x y : Foot) : Bool := (meets x.wt y.st || meets x.wt y.wt || meets x.st y.wt) || (meets x.wo y.so || meets x.wo y.wo || meets x.so y.wo)

theorem clash_comm (x y : Foot) (h : clash x y = false) : clash y x = false := by
  have hm : ∀ a b : List Nat, meets a b = false → meets b a = false := fun a b h => by
    cases hb : meets b a with
    | false => rfl
    | true =>
      unfold meets at hb
      rw [List.any_eq_true] at hb
      obtain ⟨c, hc, hc'⟩ := hb
      exact absurd hc (meets_false h (by simpa using hc'))
  simp only [clash, Bool.or_eq_false_iff] at h ⊢
  obtain ⟨⟨⟨h1, h2⟩, h3⟩, ⟨h4, h5⟩, h6⟩ := h
  exact ⟨⟨⟨hm _ _ h3, hm _ _ h2⟩, hm _ _ h1⟩, ⟨hm _ _ h6, hm _ _ h5⟩, hm _ _ h4⟩

def feet (all : List Oper) : List Oper → List (List Nat × List Nat) → List Foot
  | o :: r, x :: y => ⟨seesOf all o, o.dst.toList, x.1, x.2⟩ :: feet all r y
  | o :: r, [] => ⟨seesOf all o, o.dst.toList, [], []⟩ :: feet all r []
  | [], _ => []

def pairsOk (an : Nat) (y : Foot) : Nat → List Foot → Bool
  | _, [] => true
  | i, x :: r => (an.testBit i || !clash x y) && pairsOk an y (i + 1) r

def allOk (an : List Nat) : List Foot → List Foot → Nat → Bool
  | _, [], _ => true
  | done, y :: r, j => pairsOk (an.getD j 0) y 0 done && allOk an (done ++ [y]) r (j + 1)

def backOk : List Oper → Nat → Bool
  | [], _ => true
  | o :: r, i => (o.after.toList.all fun e => Nat.blt e.on i || !Region.binds .any e) && backOk r (i + 1)

/-- EVERY ORDER THAT THE EDGES ALLOW COMES TO ONE END. -/
def flowOk (ops : List Oper) (tr : List (List Nat × List Nat)) : Bool := allOk (ancs ops []) [] (feet ops ops tr) 0 && backOk ops 0

/-- j surely comes ahead of i. -/
inductive Anc (ops : List Oper) : Nat → Nat → Prop
  | one (i j : Nat) (o : Oper) (e : Edge) (hi : ops[i]? = some o) (he : e ∈ o.after.toList) (hb : Region.binds .any e = true) (hj : e.on = j) : Anc ops i j
  | more (i j : Nat) (o : Oper) (e : Edge) (hi : ops[i]? = some o) (he : e ∈ o.after.toList) (hb : Region.binds .any e = true) (t : Anc ops e.on j) : Anc ops i j

theorem ancB_spec {ops : List Oper} {acc : List Nat} {i j : Nat} {o : Oper} (hi : ops[i]? = some o) (hacc : ∀ k, ∀ j, (acc.getD k 0).testBit j = true → Anc ops k j) :
    ∀ (l : List Edge), (∀ e ∈ l, e ∈ o.after.toList) → (ancB acc l).testBit j = true → Anc ops i j
  | [], _, h => by simp [ancB] at h
  | e :: r, hl, h => by
    simp only [ancB] at h
    cases hb : Region.binds .any e with
    | false =>
      rw [hb] at h
      exact ancB_spec hi hacc r (fun e he => hl e (by simp [he])) h
    | true =>
      rw [hb] at h
      simp only [Nat.testBit_or, Bool.or_eq_true, Nat.testBit_two_pow, decide_eq_true_eq] at h
      rcases h with (h | h) | h
      · exact .one i j o e hi (hl e (by simp)) hb h
      · exact .more i j o e hi (hl e (by simp)) hb (hacc _ _ h)
      · exact ancB_spec hi hacc r (fun e he => hl e (by simp [he])) h

theorem ancs_spec {ops : List Oper} : ∀ (l : List Oper) (acc : List Nat), (∀ j, l[j]? = ops[acc.length + j]?) → (∀ k, ∀ j, (acc.getD k 0).testBit j = true → Anc ops k j) →
    ∀ k j, ((ancs l acc).getD k 0).testBit j = true → Anc ops k j
  | [], acc, _, hacc, k, j, h => hacc k j h
  | o :: r, acc, hl, hacc, k, j, h => by
    have h0 : ops[acc.length]? = some o := by simpa using (hl 0).symm
    refine ancs_spec r (acc ++ [ancB acc o.after.toList]) (fun j => by have := hl (j + 1); simpa [Nat.add_assoc, Nat.add_comm 1 j] using this) (fun k j hk => ?_) k j h
    rcases Nat.lt_trichotomy k acc.length with hlt | he | hgt
    · refine hacc k j ?_
      simpa [List.getD_eq_getElem?_getD, List.getElem?_append_left hlt] using hk
    · subst he
      refine ancB_spec h0 hacc o.after.toList (fun _ h => h) ?_
      simpa [List.getD_eq_getElem?_getD] using hk
    · rw [List.getD_eq_getElem?_getD, List.getElem?_eq_none (by simp; omega)] at hk
      simp at hk

theorem pairsOk_spec {an : Nat} {y : Foot} : ∀ {l : List Foot} {i : Nat}, pairsOk an y i l = true → ∀ k x, l[k]? = some x → an.testBit (i + k) = true ∨ clash x y = false
  | [], _, _, k, x, h => by simp at h
  | z :: r, i, hp, k, x, h => by
    simp only [pairsOk, Bool.and_eq_true, Bool.or_eq_true, Bool.not_eq_true'] at hp
    cases k with
    | zero => simp at h; subst h; exact hp.1
    | succ k =>
      have := pairsOk_spec hp.2 k x (by simpa using h)
      rwa [show i + 1 + k = i + (k + 1) by omega] at this

theorem allOk_spec {an : List Nat} : ∀ {l done : List Foot} {j : Nat}, allOk an done l j = true → done.length = j → ∀ i k x y, (done ++ l)[i]? = some x → (done ++ l)[k]? = some y → i < k → j ≤ k →
    (an.getD k 0).testBit i = true ∨ clash x y = false
  | [], done, j, _, hj, i, k, x, y, _, hk, _, hjk => by
    rw [List.append_nil, List.getElem?_eq_none (by omega)] at hk
    cases hk
  | z :: r, done, j, h, hj, i, k, x, y, hx, hy, hik, hjk => by
    simp only [allOk, Bool.and_eq_true] at h
    rcases Nat.eq_or_lt_of_le hjk with e | e
    · subst e
      have hz : y = z := by
        rw [List.getElem?_append_right (by omega), hj, Nat.sub_self] at hy
        simpa using hy.symm
      subst hz
      have hx' : done[i]? = some x := by rwa [List.getElem?_append_left (by omega)] at hx
      have := pairsOk_spec h.1 i x hx'
      rwa [Nat.zero_add] at this
    · have := allOk_spec (done := done ++ [z]) h.2 (by simp [hj]) i k x y (by simpa using hx) (by simpa using hy) hik e
      exact this

theorem backOk_spec : ∀ {l : List Oper} {i : Nat}, backOk l i = true → ∀ k o, l[k]? = some o → ∀ e ∈ o.after.toList, Region.binds .any e = true → e.on < i + k
  | [], _, _, k, o, h => by simp at h
  | z :: r, i, hb, k, o, h => by
    simp only [backOk, Bool.and_eq_true, List.all_eq_true] at hb
    cases k with
    | zero =>
      simp at h
      subst h
      intro e he hbe
      have := hb.1 e he
      rw [hbe] at this
      simp only [Bool.not_true, Bool.or_false, Nat.blt_eq] at this
      omega
    | succ k =>
      intro e he hbe
      have := backOk_spec hb.2 k o (by simpa using h) e he hbe
      omega

end
end Go.Proofs.YtghdgjabpdfaoaaDoor.Flow

/-
  FLOW, PART K: WHATEVER ORDER IS DRAWN.
-/
namespace Go.Proofs.YtghdgjabpdfaoaaDoor.Flow

theorem updO_keep : ∀ {wr : List (Nat × Own)} {O : Nat → Option Own} {k : Nat}, k ∉ wr.map (·.1) → updO O wr k = O k
  | [], _, _, _ => rfl
  | (j, o) :: r, O, k, h => by
    simp only [List.map_cons, List.mem_cons, not_or] at h
    show updO (fun i => if i = j then some o else O i) r k = O k
    rw [updO_keep h.2]
    exact if_neg h.1

theorem updO_same : ∀ {wr : List (Nat × Own)} {O O' : Nat → Option Own} {k : Nat}, (k ∈ wr.map (·.1) ∨ O k = O' k) → updO O wr k = updO O' wr k
  | [], _, _, _, h => by
    rcases h with h | h
    · simp at h
    · exact h
  | (j, o) :: r, O, O', k, h => by
    show updO (fun i => if i = j then some o else O i) r k = updO (fun i => if i = j then some o else O' i) r k
    refine updO_same ?_
    by_cases e : k = j
    · exact .inr (by simp [e])
    · rcases h with h | h
      · simp only [List.map_cons, List.mem_cons] at h
        rcases h with h | h
        · exact absurd h e
        · exact .inl h
      · exact .inr (by simp [e, h])

theorem updF_keep {F : Nat → D} {dst : Option Tmp} {d : D} {t : Nat} (h : t ∉ dst.toList) : updF F dst d t = F t := by
  cases dst with
  | none => rfl
  | some u => exact if_neg (by simpa using h)

theorem updF_same {F F' : Nat → D} {dst : Option Tmp} {d : D} {t : Nat} (h : t ∈ dst.toList ∨ F t = F' t) : updF F dst d t = updF F' dst d t := by
  cases dst with
  | none => simpa [updF] using h
  | some u =>
    show (if t = u then d else F t) = (if t = u then d else F' t)
    by_cases e : t = u
    · simp [e]
    · rcases h with h | h
      · simp at h; exact absurd h e
      · simp [e, h]

/-- The frame and the objects behind those of the first k operations that are listed. -/
def runF (ops : List Oper) (es : List Eff) (L : Nat → Bool) (F : Nat → D) : Nat → Nat → D
  | 0 => F
  | k + 1 => if L k then (match ops[k]?, es[k]? with
    | some o, some e => updF (runF ops es L F k) o.dst e.d
    | _, _ => runF ops es L F k) else runF ops es L F k

def runO (ops : List Oper) (es : List Eff) (L : Nat → Bool) (O : Nat → Option Own) : Nat → Nat → Option Own
  | 0 => O
  | k + 1 => if L k then (match ops[k]?, es[k]? with
    | some _, some e => updO (runO ops es L O k) e.wr
    | _, _ => runO ops es L O k) else runO ops es L O k

section
variable {ops : List Oper} {es : List Eff} {F : Nat → D} {O : Nat → Option Own}

theorem runF_agree {L L' : Nat → Bool} {t : Nat} : ∀ {k : Nat}, (∀ i o, i < k → ops[i]? = some o → L i ≠ L' i → t ∉ o.dst.toList) → runF ops es L F k t = runF ops es L' F k t
  | 0, _ => rfl
  | k + 1, h => by
    have ih := runF_agree (L := L) (L' := L') (t := t) (k := k) (fun i o hi => h i o (by omega))
    simp only [runF]
    cases ho : ops[k]? with
    | none => simp only []; simpa using ih
    | some o =>
      cases he : es[k]? with
      | none => simp only []; simpa using ih
      | some e =>
        simp only []
        by_cases hL : L k = L' k
        · rw [hL]
          cases L' k
          · simpa using ih
          · simpa using updF_same (.inr ih)
        · have hn := h k o (by omega) ho hL
          cases h1 : L k <;> cases h2 : L' k
          · exact absurd (h1.trans h2.symm) hL
          · simp only [Bool.false_eq_true, if_false, if_true]
            rw [updF_keep hn]; exact ih
          · simp only [Bool.false_eq_true, if_false, if_true]
            rw [updF_keep hn]; exact ih
          · exact absurd (h1.trans h2.symm) hL

theorem runO_agree {L L' : Nat → Bool} {t : Nat} : ∀ {k : Nat}, (∀ i e, i < k → es[i]? = some e → L i ≠ L' i → t ∉ e.wr.map (·.1)) → runO ops es L O k t = runO ops es L' O k t
  | 0, _ => rfl
  | k + 1, h => by
    have ih := runO_agree (L := L) (L' := L') (t := t) (k := k) (fun i o hi => h i o (by omega))
    simp only [runO]
    cases ho : ops[k]? with
    | none => simp only []; simpa using ih
    | some o =>
      cases he : es[k]? with
      | none => simp only []; simpa using ih
      | some e =>
        simp only []
        by_cases hL : L k = L' k
        · rw [hL]
          cases L' k
          · simpa using ih
          · simpa using updO_same (.inr ih)
        · have hn := h k e (by omega) he hL
          cases h1 : L k <;> cases h2 : L' k
          · exact absurd (h1.trans h2.symm) hL
          · simp only [Bool.false_eq_true, if_false, if_true]
            rw [updO_keep hn]; exact ih
          · simp only [Bool.false_eq_true, if_false, if_true]
            rw [updO_keep hn]; exact ih
          · exact absurd (h1.trans h2.symm) hL

/-- What is listed from j on does not write t: so it is as it was at j. -/
theorem runF_stop {L : Nat → Bool} {t j : Nat} : ∀ {m : Nat}, (∀ i o, j ≤ i → ops[i]? = some o → L i = true → t ∉ o.dst.toList) → runF ops es L F (j + m) t = runF ops es L F j t
  | 0, _ => rfl
  | m + 1, h => by
    have ih := runF_stop (L := L) (t := t) (j := j) (m := m) h
    show runF ops es L F (j + m + 1) t = _
    simp only [runF]
    cases ho : ops[j + m]? with
    | none => simp only []; simpa using ih
    | some o =>
      cases he : es[j + m]? with
      | none => simp only []; simpa using ih
      | some e =>
        simp only []
        cases hL : L (j + m) with
        | false => simpa using ih
        | true =>
          simp only [if_true]
          rw [updF_keep (h _ o (by omega) ho hL)]
          exact ih

theorem runO_stop {L : Nat → Bool} {t j : Nat} : ∀ {m : Nat}, (∀ i e, j ≤ i → es[i]? = some e → L i = true → t ∉ e.wr.map (·.1)) → runO ops es L O (j + m) t = runO ops es L O j t
  | 0, _ => rfl
  | m + 1, h => by
    have ih := runO_stop (L := L) (t := t) (j := j) (m := m) h
    show runO ops es L O (j + m + 1) t = _
    simp only [runO]
    cases ho : ops[j + m]? with
    | none => simp only []; simpa using ih
    | some o =>
      cases he : es[j + m]? with
      | none => simp only []; simpa using ih
      | some e =>
        simp only []
        cases hL : L (j + m) with
        | false => simpa using ih
        | true =>
          simp only [if_true]
          rw [updO_keep (h _ e (by omega) he hL)]
          exact ih
end

def footAt (all : List Oper) (o : Oper) (e : Eff) : Foot := ⟨seesOf all o, o.dst.toList, e.rd, e.wr.map (·.1)⟩

theorem feet_at {all : List Oper} : ∀ {l : List Oper} {es : List Eff} {k : Nat} {o : Oper} {e : Eff}, l[k]? = some o → es[k]? = some e → (feet all l (es.map fun e => (e.rd, e.wr.map (·.1))))[k]? = some (footAt all o e)
  | [], _, k, o, e, h, _ => by simp at h
  | z :: l, [], k, o, e, _, h => by simp at h
  | z :: l, x :: es, 0, o, e, h, he => by
    simp at h he
    subst h he
    rfl
  | z :: l, x :: es, k + 1, o, e, h, he => by
    simp only [List.map_cons, feet]
    rw [List.getElem?_cons_succ]
    exact feet_at (by simpa using h) (by simpa using he)

section
variable {P : Program} {X : Ctx} {n : Nat} {all : List Oper}

theorem Ch.len {l : List Oper} {F : Nat → D} {O : Nat → Option Own} {es : List Eff} {F' : Nat → D} {O' : Nat → Option Own} (h : Ch P X n all l F O es F' O') : es.length = l.length := by
  induction h with
  | nil => rfl
  | cons o rest F O e es F' O' h t ih => simp [ih]

/-- The chain, place by place. -/
theorem Ch.at {l : List Oper} {F : Nat → D} {O : Nat → Option Own} {es : List Eff} {F' : Nat → D} {O' : Nat → Option Own} (h : Ch P X n all l F O es F' O') :
    (∀ k o e, l[k]? = some o → es[k]? = some e → LDoes P X n all o (runF l es (fun _ => true) F k) (runO l es (fun _ => true) O k) e) ∧
    runF l es (fun _ => true) F l.length = F' ∧ runO l es (fun _ => true) O l.length = O' := by
  induction h with
  | nil F O => exact ⟨fun k o e h => by simp at h, rfl, rfl⟩
  | cons o rest F O e es F' O' h t ih =>
    have hF : ∀ k, runF (o :: rest) (e :: es) (fun _ => true) F (k + 1) = runF rest es (fun _ => true) (updF F o.dst e.d) k := by
      intro k
      induction k with
      | zero => simp [runF]
      | succ k ihk =>
        rw [runF]
        simp only [if_true, List.getElem?_cons_succ]
        rw [ihk]
        rw [runF]
        simp
    have hO : ∀ k, runO (o :: rest) (e :: es) (fun _ => true) O (k + 1) = runO rest es (fun _ => true) (updO O e.wr) k := by
      intro k
      induction k with
      | zero => simp [runO]
      | succ k ihk =>
        rw [runO]
        simp only [if_true, List.getElem?_cons_succ]
        rw [ihk]
        rw [runO]
        simp
    refine ⟨fun k o' e' ho he => ?_, ?_, ?_⟩
    · cases k with
      | zero =>
        simp at ho he
        subst ho he
        exact h
      | succ k =>
        rw [hF, hO]
        exact ih.1 k o' e' (by simpa using ho) (by simpa using he)
    · rw [List.length_cons, hF]; exact ih.2.1
    · rw [List.length_cons, hO]; exact ih.2.2

/-- What has come up is closed: it holds whatever surely comes ahead. -/
def Closed (ops : Array Oper) (listed : Array Bool) : Prop := ∀ i o, ops[i]? = some o → listed.getD i true = true → ∀ e ∈ o.after, Region.binds .any e = true → listed.getD e.on false = true

theorem getD_bools {listed : Array Bool} {j : Nat} {a b : Bool} (h : j < listed.size) : listed.getD j a = listed.getD j b := by
  simp [Array.getD_eq_getD_getElem?, h]

theorem Closed.anc {ops : Array Oper} {listed : Array Bool} (hc : Closed ops listed) (hz : listed.size = ops.size) {i j : Nat} (h : Anc ops.toList i j) (hi : listed.getD i true = true) : listed.getD j true = true := by
  have hsize : ∀ k, listed.getD k false = true → listed.getD k true = true := fun k hk => by
    rcases Nat.lt_or_ge k listed.size with h | h
    · rw [getD_bools (b := false) h]; exact hk
    · simp [Array.getD_eq_getD_getElem?, Array.getElem?_eq_none h]
  induction h with
  | one i j o e ho he hb hj =>
    subst hj
    exact hsize _ (hc i o (by simpa using ho) hi e (by simpa using he) hb)
  | more i j o e ho he hb t ih => exact ih (hsize _ (hc i o (by simpa using ho) hi e (by simpa using he) hb))

theorem countP_lt {p p' : Nat → Bool} {j : Nat} (h1 : ∀ i, p' i = true → p i = true) (h2 : p j = true) (h3 : p' j = false) : ∀ {l : List Nat}, j ∈ l → l.countP p' < l.countP p
  | x :: l, h => by
    have hle : l.countP p' ≤ l.countP p := List.countP_mono_left fun i _ hi => h1 i hi
    rcases List.mem_cons.1 h with e | e
    · subst e
      rw [List.countP_cons_of_pos h2, List.countP_cons_of_neg (by simp [h3])]
      omega
    · have ih := countP_lt h1 h2 h3 e
      rw [List.countP_cons, List.countP_cons]
      cases hp : p' x with
      | false => simp; omega
      | true => simp [h1 x hp]; omega

/-- WHATEVER ORDER IS PICKED FROM HERE ON. -/
theorem wpAny_of_ch {ops : Array Oper} {Q : Exit → Act → World → Prop} {F : Nat → D} {O : Nat → Option Own} {es : List Eff} {F' : Nat → D} {O' : Nat → Option Own} (h : Ch P X n ops.toList ops.toList F O es F' O')
    (hok : flowOk ops.toList (es.map fun e => (e.rd, e.wr.map (·.1))) = true) (hQ : ∀ a w, Rep X n F' O' a w → Q .normal a w) :
    ∀ (fuel : Nat) (listed : Array Bool) (a : Act) (w : World), listed.size = ops.size → Closed ops listed → ((List.range ops.size).countP fun i => !listed.getD i true) ≤ fuel →
      Rep X n (runF ops.toList es (fun i => listed.getD i true) F ops.size) (runO ops.toList es (fun i => listed.getD i true) O ops.size) a w → wpAny P .any ops Q fuel listed a w := by
  obtain ⟨hat, hendF, hendO⟩ := h.at
  have hlen := h.len
  have hN : ops.toList.length = ops.size := Array.length_toList
  rw [hN] at hlen hendF hendO
  simp only [flowOk, Bool.and_eq_true] at hok
  obtain ⟨hall, hback⟩ := hok
  have hanc := ancs_spec (ops := ops.toList) ops.toList [] (fun j => by simp) (fun k j hk => by simp at hk)
  -- two operations that are not ordered do not clash
  have hcl : ∀ i k oi ok ei ek, ops.toList[i]? = some oi → ops.toList[k]? = some ok → es[i]? = some ei → es[k]? = some ek → i < k → ¬ Anc ops.toList k i → clash (footAt ops.toList oi ei) (footAt ops.toList ok ek) = false := by
    intro i k oi ok ei ek h1 h2 h3 h4 hik hna
    have := allOk_spec hall rfl i k _ _ (by simpa using feet_at (all := ops.toList) h1 h3) (by simpa using feet_at (all := ops.toList) h2 h4) hik (Nat.zero_le _)
    rcases this with h | h
    · exact absurd (hanc k i h) hna
    · exact h
  have hes : ∀ i o, ops[i]? = some o → ∃ e, es[i]? = some e := fun i o ho => by
    have : i < ops.size := (Array.getElem?_eq_some_iff.1 ho).1
    exact ⟨_, List.getElem?_eq_getElem (by omega)⟩
  -- nothing ready: all listed
  have hdone : ∀ listed : Array Bool, listed.size = ops.size → Region.ready .any ops listed = [] → ∀ i, listed.getD i true = true := by
    intro listed hz hr i
    induction i using Nat.strongRecOn with
    | _ i ih =>
      cases hL : listed.getD i true with
      | true => rfl
      | false =>
        exfalso
        have hi : i < ops.size := by
          rcases Nat.lt_or_ge i listed.size with h | h
          · omega
          · rw [Array.getD_eq_getD_getElem?, Array.getElem?_eq_none h] at hL
            cases hL
        have hmem : i ∈ Region.ready .any ops listed := by
          refine mem_ready.2 ⟨hL, ops[i], by simp [hi], fun e he hb => ?_⟩
          have hlt := backOk_spec hback i ops[i] (by simp [hi]) e (by simpa using he) hb
          have := ih e.on (by omega)
          rwa [getD_bools (b := true) (by omega)]
        rw [hr] at hmem
        cases hmem
  have hfin : ∀ (listed : Array Bool) (a : Act) (w : World), listed.size = ops.size → Region.ready .any ops listed = [] →
      Rep X n (runF ops.toList es (fun i => listed.getD i true) F ops.size) (runO ops.toList es (fun i => listed.getD i true) O ops.size) a w → Q .normal a w := by
    intro listed a w hz hr hrep
    have hd := hdone listed hz hr
    have e : (fun i => listed.getD i true) = fun _ => true := funext hd
    rw [e, hendF, hendO] at hrep
    exact hQ a w hrep
  intro fuel
  induction fuel with
  | zero =>
    intro listed a w hz hc hn hrep
    have hr : Region.ready .any ops listed = [] := by
      apply List.eq_nil_iff_forall_not_mem.2
      intro i hi
      obtain ⟨h1, o, ho, _⟩ := mem_ready.1 hi
      have hlt : i < ops.size := (Array.getElem?_eq_some_iff.1 ho).1
      have : 0 < (List.range ops.size).countP fun i => !listed.getD i true := List.countP_pos_iff.2 ⟨i, by simpa using hlt, by simp [h1]⟩
      omega
    exact ⟨hr, hfin listed a w hz hr hrep⟩
  | succ fuel ih =>
    intro listed a w hz hc hn hrep
    refine ⟨fun hr => hfin listed a w hz hr hrep, fun j hj => ?_⟩
    obtain ⟨hjl, o, ho, hpre⟩ := mem_ready.1 hj
    have hjn : j < ops.size := (Array.getElem?_eq_some_iff.1 ho).1
    have hol : ops.toList[j]? = some o := by simpa using ho
    obtain ⟨e, he⟩ := hes j o ho
    have hLd := hat j o e hol he
    -- whatever surely comes ahead of j has come up
    have hancj : ∀ i, Anc ops.toList j i → listed.getD i true = true := by
      intro i hi
      have hsize : ∀ k, listed.getD k false = true → listed.getD k true = true := fun k hk => by
        rcases Nat.lt_or_ge k listed.size with h | h
        · rw [getD_bools (b := false) h]; exact hk
        · simp [Array.getD_eq_getD_getElem?, Array.getElem?_eq_none h]
      cases hi with
      | one _ _ o' e' ho' he' hb hj' =>
        rw [hol] at ho'
        cases ho'
        subst hj'
        exact hsize _ (hpre e' (by simpa using he') hb)
      | more _ _ o' e' ho' he' hb t =>
        rw [hol] at ho'
        cases ho'
        exact hc.anc hz t (hsize _ (hpre e' (by simpa using he') hb))
    -- nothing that has come up and stands behind j in the text clashes with it; nothing that has not come up and stands ahead does
    have hafter : ∀ i oi ei, j ≤ i → ops.toList[i]? = some oi → es[i]? = some ei → listed.getD i true = true → clash (footAt ops.toList oi ei) (footAt ops.toList o e) = false := by
      intro i oi ei hji hoi hei hL
      have hne : j ≠ i := fun h => by subst h; rw [hjl] at hL; cases hL
      refine clash_comm _ _ (hcl j i o oi e ei hol hoi he hei (by omega) fun ha => ?_)
      have := hc.anc hz ha hL
      rw [hjl] at this
      cases this
    have hbefore : ∀ i oi ei, i < j → ops.toList[i]? = some oi → es[i]? = some ei → listed.getD i true = false → clash (footAt ops.toList oi ei) (footAt ops.toList o e) = false := by
      intro i oi ei hij hoi hei hL
      refine hcl i j oi o ei e hoi hol hei he hij fun ha => ?_
      have := hancj i ha
      rw [hL] at this
      cases this
    have hmj : ops.size = j + (ops.size - j) := by omega
    have hF : ∀ t, t ∈ seesOf ops.toList o ∨ t ∈ o.dst.toList → runF ops.toList es (fun i => listed.getD i true) F ops.size t = runF ops.toList es (fun _ => true) F j t := by
      intro t ht
      rw [hmj, runF_stop (fun i oi hji hoi hL => ?_), runF_agree (fun i oi hij hoi hne => ?_)]
      · have hL : listed.getD i true = false := by
          cases h : listed.getD i true with
          | false => rfl
          | true => exact absurd h hne
        obtain ⟨ei, hei⟩ := hes i oi (by simpa using hoi)
        have := hbefore i oi ei hij hoi hei hL
        simp only [clash, footAt, Bool.or_eq_false_iff] at this
        intro hmem
        rcases ht with ht | ht
        · exact meets_false this.1.1.1 hmem ht
        · exact meets_false this.1.1.2 hmem ht
      · obtain ⟨ei, hei⟩ := hes i oi (by simpa using hoi)
        have := hafter i oi ei hji hoi hei hL
        simp only [clash, footAt, Bool.or_eq_false_iff] at this
        intro hmem
        rcases ht with ht | ht
        · exact meets_false this.1.1.1 hmem ht
        · exact meets_false this.1.1.2 hmem ht
    have hO : ∀ t, t ∈ e.rd ∨ t ∈ e.wr.map (·.1) → runO ops.toList es (fun i => listed.getD i true) O ops.size t = runO ops.toList es (fun _ => true) O j t := by
      intro t ht
      have hoi : ∀ i ei, es[i]? = some ei → ∃ oi, ops.toList[i]? = some oi := fun i ei hei => by
        have : i < es.length := (List.getElem?_eq_some_iff.1 hei).1
        exact ⟨_, (Array.getElem?_toList).trans (Array.getElem?_eq_getElem (by omega))⟩
      rw [hmj, runO_stop (fun i ei hji hei hL => ?_), runO_agree (fun i ei hij hei hne => ?_)]
      · have hL : listed.getD i true = false := by
          cases h : listed.getD i true with
          | false => rfl
          | true => exact absurd h hne
        obtain ⟨oi, hoi⟩ := hoi i ei hei
        have := hbefore i oi ei hij hoi hei hL
        simp only [clash, footAt, Bool.or_eq_false_iff] at this
        intro hmem
        rcases ht with ht | ht
        · exact meets_false this.2.1.1 hmem ht
        · exact meets_false this.2.1.2 hmem ht
      · obtain ⟨oi, hoi⟩ := hoi i ei hei
        have := hafter i oi ei hji hoi hei hL
        simp only [clash, footAt, Bool.or_eq_false_iff] at this
        intro hmem
        rcases ht with ht | ht
        · exact meets_false this.2.1.1 hmem ht
        · exact meets_false this.2.1.2 hmem ht
    have hdoes := hLd _ _ (fun t ht => hF t (.inl ht)) (fun k hk => hO k (.inl hk))
    refine wpOp_of_does ho hdoes hrep fun a' w' hrep' => ?_
    refine ih _ a' w' (by rw [Array.size_setIfInBounds]; exact hz) ?_ ?_ ?_
    · intro i oi hoi hL e' he' hb
      by_cases hij : j = i
      · subst hij
        rw [ho] at hoi
        cases hoi
        exact getD_set_true (hpre e' he' hb)
      · rw [getD_set_ne true hij] at hL
        exact getD_set_true (hc i oi hoi hL e' he' hb)
    · have hlt : ((List.range ops.size).countP fun i => !(listed.setIfInBounds j true).getD i true) < ((List.range ops.size).countP fun i => !listed.getD i true) := by
        refine countP_lt (j := j) (fun i hi => ?_) (by simp [hjl]) ?_ (by simpa using hjn)
        · by_cases hij : j = i
          · subst hij; simp [hjl]
          · rwa [getD_set_ne true hij] at hi
        · simp [Array.getD_eq_getD_getElem?, show j < listed.size by omega]
      omega
    · have hset : ∀ i, i ≠ j → (listed.setIfInBounds j true).getD i true = listed.getD i true := fun i hi => getD_set_ne true (Ne.symm hi)
      have hsetj : (listed.setIfInBounds j true).getD j true = true := by
        simp [Array.getD_eq_getD_getElem?, show j < listed.size by omega]
      have hmj1 : ops.size = j + 1 + (ops.size - (j + 1)) := by omega
      have eF : runF ops.toList es (fun i => (listed.setIfInBounds j true).getD i true) F ops.size = updF (runF ops.toList es (fun i => listed.getD i true) F ops.size) o.dst e.d := by
        funext t
        by_cases ht : t ∈ o.dst.toList
        · rw [hmj1, runF_stop (fun i oi hji hoi hL => ?_)]
          · rw [← hmj1]
            simp only [runF, hsetj, if_true, hol, he]
            exact updF_same (.inl ht)
          · simp only [hset i (by omega)] at hL
            obtain ⟨ei, hei⟩ := hes i oi (by simpa using hoi)
            have := hafter i oi ei (by omega) hoi hei hL
            simp only [clash, footAt, Bool.or_eq_false_iff] at this
            exact fun hmem => meets_false this.1.1.2 hmem ht
        · rw [updF_keep ht]
          refine runF_agree fun i oi hi hoi hne => ?_
          by_cases hij : i = j
          · subst hij
            rw [hol] at hoi
            cases hoi
            exact ht
          · exact absurd (hset i hij) hne
      have eO : runO ops.toList es (fun i => (listed.setIfInBounds j true).getD i true) O ops.size = updO (runO ops.toList es (fun i => listed.getD i true) O ops.size) e.wr := by
        funext t
        by_cases ht : t ∈ e.wr.map (·.1)
        · rw [hmj1, runO_stop (fun i ei hji hei hL => ?_)]
          · rw [← hmj1]
            simp only [runO, hsetj, if_true, hol, he]
            exact updO_same (.inl ht)
          · simp only [hset i (by omega)] at hL
            have hlt : i < es.length := (List.getElem?_eq_some_iff.1 hei).1
            have hoi : ops.toList[i]? = some (ops[i]'(by omega)) := by simp [show i < ops.size by omega]
            have := hafter i _ ei (by omega) hoi hei hL
            simp only [clash, footAt, Bool.or_eq_false_iff] at this
            exact fun hmem => meets_false this.2.1.2 hmem ht
        · rw [updO_keep ht]
          refine runO_agree fun i ei hi hei hne => ?_
          by_cases hij : i = j
          · subst hij
            rw [he] at hei
            cases hei
            exact ht
          · exact absurd (hset i hij) hne
      rw [eF, eO]
      exact hrep'

theorem Rep.drew {F : Nat → D} {O : Nat → Option Own} {a : Act} {w : World} (h : Rep X n F O a w) : Rep X n F O a w.drew := by
  obtain ⟨S, r, hH, hI, hF, hd, hn, hρ⟩ := h
  have hc : Chg w w.drew S none := ⟨rfl, rfl, rfl, Nat.le_refl _, fun _ _ _ => rfl, fun _ _ _ => rfl⟩
  exact ⟨S, r, hH.chg hc (fun b hb => by cases hb) (fun _ _ h => h) (fun _ _ h => .inl h), hI.grow hc (fun _ _ h => h) (fun _ _ h => .inl h),
    fun t => (hF t).mono (w' := w.drew) (fun _ _ h => h) (fun _ _ _ => rfl) r (RhoLe.refl r), hd, hn, hρ⟩

/-- A region whose order is drawn. -/
theorem wp_region_any_of_ch {id : Nat} {ops : Array Oper} {Q : Exit → Act → World → Prop} {F : Nat → D} {O : Nat → Option Own} {es : List Eff} {F' : Nat → D} {O' : Nat → Option Own} (hm : P.follows .mixedOrders = true)
    (h : Ch P X n ops.toList ops.toList F O es F' O') (hok : flowOk ops.toList (es.map fun e => (e.rd, e.wr.map (·.1))) = true) (hQ : ∀ a w, Rep X n F' O' a w → Q .normal a w)
    {a : Act} {w : World} (hr : Rep X n F O a w) : (Code.region id ops true).wp P Q a w := by
  refine wp_region_any hm ?_
  have hnone : (fun i => (Array.replicate ops.size false).getD i true) = fun i => !decide (i < ops.size) := by
    funext i
    by_cases hi : i < ops.size <;> simp [Array.getD_eq_getD_getElem?, hi]
  have e1 : ∀ k, k ≤ ops.size → runF ops.toList es (fun i => (Array.replicate ops.size false).getD i true) F k = F := by
    intro k hk
    induction k with
    | zero => rfl
    | succ k ih =>
      have hk' : ¬ ((Array.replicate ops.size false).getD k true = true) := by
        have hkk : (Array.replicate ops.size false).getD k true = !decide (k < ops.size) := congrFun hnone k
        rw [hkk]
        simp
        omega
      rw [runF, if_neg hk']
      exact ih (by omega)
  have e2 : ∀ k, k ≤ ops.size → runO ops.toList es (fun i => (Array.replicate ops.size false).getD i true) O k = O := by
    intro k hk
    induction k with
    | zero => rfl
    | succ k ih =>
      have hk' : ¬ ((Array.replicate ops.size false).getD k true = true) := by
        have hkk : (Array.replicate ops.size false).getD k true = !decide (k < ops.size) := congrFun hnone k
        rw [hkk]
        simp
        omega
      rw [runO, if_neg hk']
      exact ih (by omega)
  refine wpAny_of_ch h hok hQ ops.size _ a _ (by simp) (fun i o hi hL => ?_) (Nat.le_trans List.countP_le_length (by simp)) ?_
  · have hlt : i < ops.size := (Array.getElem?_eq_some_iff.1 hi).1
    simp [Array.getD_eq_getD_getElem?, hlt] at hL
  · rw [e1 _ (Nat.le_refl _), e2 _ (Nat.le_refl _)]
    exact hr.drew

theorem wp_region_of_ch {id : Nat} {ops : Array Oper} {Q : Exit → Act → World → Prop} {F : Nat → D} {O : Nat → Option Own} {es : List Eff} {F' : Nat → D} {O' : Nat → Option Own}
    (h : Ch P X n ops.toList ops.toList F O es F' O') (hQ : ∀ a w, Rep X n F' O' a w → Q .normal a w)
    {a : Act} {w : World} (hr : Rep X n F O a w) : (Code.region id ops false).wp P Q a w := by
  refine wp_region ?_
  have := wpOps_of_ch (k := 0) h (fun j => by simp) hQ a w hr
  rw [List.range_eq_range']
  simpa using this
end
end Go.Proofs.YtghdgjabpdfaoaaDoor.Flow
