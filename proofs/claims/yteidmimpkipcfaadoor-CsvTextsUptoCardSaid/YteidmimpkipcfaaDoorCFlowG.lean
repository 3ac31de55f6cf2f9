/-
  FLOW, PART G: STORES, LITERALS, APPEND, CONVERSIONS.
-/
import Derived.Test.YteidmimpkipcfaaDoorCFlowF
namespace Go.Proofs.YteidmimpkipcfaaDoor.Flow

section
variable {P : Program} {X : Ctx} {n : Nat} {o : Oper} {F : Nat → D} {O O' : Nat → Option Own}

theorem updO_one (O : Nat → Option Own) (k : Nat) (ob : Own) : updO O [(k, ob)] = fun j => if j = k then some ob else O j := rfl

/-- A store into a variable of the call's own. -/
theorem store_ok {w : World} {S : Cells} {r : Rho} {t : TypeId} {z : Nat × Bool} {k off : Nat} {cs : List D} {d : D} {va vx : Value} (hH : Hist X w S) (hI : Inv X w S r O)
    (ha : Rel S w r (.pv k off) va) (hx : Rel S w r d vx) (hz : szOf P t = some z) (hk : O k = some (.var cs)) (h1 : d.cells.length = z.1) (h2 : off + d.cells.length ≤ cs.length)
    (h3 : d.solid = true) (h4 : d.cells.all D.one = true) :
    ∃ w' , (Instr.storeAt t va vx).run P w = .ok () w' ∧ Hist X w' S ∧ Inv X w' S r (updO O [(k, .var (putCells cs off d.cells))]) ∧ (∀ b o, S b o → w'.cell? ⟨b, o, none⟩ = w.cell? ⟨b, o, none⟩) := by
  cases ha with
  | pv _ _ _ b hb =>
    obtain ⟨b', cur, e, g1, g2, g3, g4, g5⟩ := hI.obj k _ hk
    rw [hb] at g1
    cases g1
    obtain ⟨hv, hvr⟩ := rel_cells hx h3
    have hs := run_sizeOf (w := w) hz
    have hvl : vx.cells.toList.length = d.cells.length := by simpa using hv
    have h1c : ∀ v ∈ vx.cells.toList, v.oneCell' = true := by
      intro v hv'
      obtain ⟨j, hj, he⟩ := List.mem_iff_getElem.1 hv'
      rw [hvl] at hj
      have hrj := hvr j hj
      have hone : (d.cells.getD j .any).one = true := by
        rw [List.all_eq_true] at h4
        refine h4 _ ?_
        simp only [List.getD_eq_getElem?_getD, List.getElem?_eq_getElem hj, Option.getD_some]
        exact List.getElem_mem hj
      have := hrj.one hone
      rw [← he]
      have hj' : j < vx.cells.size := by omega
      simpa [Array.getD_eq_getD_getElem?, hj'] using this
    have hst := run_storeCells_at P b off e vx.cells.toList 0 cur w g2 (by rw [hvl]; omega) h1c
    simp only [Nat.add_zero] at hst
    refine ⟨w.setRow b (cur.toList.take off ++ vx.cells.toList ++ cur.toList.drop (off + vx.cells.toList.length)).toArray, ?_, ?_, ?_, ?_⟩
    · simp only [Instr.storeAt, Instr.sureAddr, storeVar, Sem.run_bind, Sem.run_pure, Result.andThen_ok, hs]
      rw [if_neg (by omega)]
      exact hst
    · exact hH.chg (Chg.setRow w S b cur _ e (0, 0) g2 (fun o ho => absurd ho (g5 o))) (fun b' hb' => by cases hb'; exact hI.low k _ b hb rfl) (fun _ _ h => h) (fun _ _ h => .inl h)
    · refine hI.put (Chg.setRow w S b cur _ e (0, 0) g2 (fun o ho => absurd ho (g5 o))) (fun _ _ h => h) (RhoLe.refl r) k _ (.blk b) ?_ hb (fun _ _ => rfl)
        (fun b' hb' => .inr ⟨_, hb, hb'⟩) (fun b' hb' => ⟨_, hb, by cases hb'; rfl⟩) (fun _ _ h => .inl h)
      have hlen := length_put cs d.cells off h2
      have hfit' : off + vx.cells.toList.length ≤ cur.toList.length := by simp; omega
      have hlen' := length_put cur.toList vx.cells.toList off hfit'
      have hc := (Chg.setRow w S b cur (cur.toList.take off ++ vx.cells.toList ++ cur.toList.drop (off + vx.cells.toList.length)).toArray e (0, 0) g2 (fun o ho => absurd ho (g5 o))).cell
      refine ⟨b, _, e, hb, setRow_heap w b cur _ e (0, 0) g2, ?_, fun j hj => ?_, g5⟩
      · unfold putCells
        rw [hlen, List.size_toArray, hlen']
        simpa using g3
      · unfold putCells at hj ⊢
        rw [hlen] at hj
        rw [getD_put _ _ _ _ _ h2, getD_arr, getD_put _ _ _ _ _ hfit', hvl]
        by_cases hcj : off ≤ j ∧ j < off + d.cells.length
        · rw [if_pos hcj, if_pos hcj]
          have hj2 : j - off < d.cells.length := by omega
          have h5 := hvr (j - off) hj2
          refine ⟨?_, ?_⟩
          · have := h5.mono (fun _ _ h => h) hc r (RhoLe.refl r)
            rw [hvl] at this
            simpa [Array.getD_eq_getD_getElem?, List.getD_eq_getElem?_getD] using this
          · rw [List.all_eq_true] at h4
            refine h4 _ ?_
            simp only [List.getD_eq_getElem?_getD, List.getElem?_eq_getElem hj2, Option.getD_some]
            exact List.getElem_mem hj2
        · rw [if_neg hcj, if_neg hcj]
          have h5 := g4 j hj
          refine ⟨?_, h5.2⟩
          have := h5.1.mono (fun _ _ h => h) hc r (RhoLe.refl r)
          rw [hvl] at this
          simpa [Array.getD_eq_getD_getElem?, List.getD_eq_getElem?_getD] using this
    · exact (Chg.setRow w S b cur _ e (0, 0) g2 (fun o ho => absurd ho (g5 o))).cell

/-- A store into an element of a row of the call's own. -/
theorem storeA_ok {w : World} {S : Cells} {r : Rho} {t : TypeId} {z : Nat × Bool} {k e len i off : Nat} {el : TypeId} {L : Nat} {f : Nat → List D} {d : D} {va vx : Value} (hH : Hist X w S) (hI : Inv X w S r O)
    (ha : Rel S w r (.ap k e len i off) va) (hx : Rel S w r d vx) (hz : szOf P t = some z) (hk : O k = some (.arr el e L f)) (hlen : len = L) (hi : i < L) (h1 : d.cells.length = z.1) (h2 : off + d.cells.length ≤ e)
    (h3 : d.solid = true) (h4 : d.cells.all D.plain = true) :
    ∃ w' , (Instr.storeAt t va vx).run P w = .ok () w' ∧ Hist X w' S ∧ Inv X w' S r (updO O [(k, .arr el e L (putF f i (putCells (f i) off d.cells)))]) ∧ (∀ b o, S b o → w'.cell? ⟨b, o, none⟩ = w.cell? ⟨b, o, none⟩) := by
  subst hlen
  cases ha with
  | ap _ _ _ _ _ _ a tv L' hk' hL hta hag =>
    obtain ⟨tv', g1, g2⟩ := hI.obj k _ hk
    rw [hk'] at g1
    cases g1
    obtain ⟨g, cap, htv, rfl⟩ := hta rfl
    rcases g2 with ⟨e1, e2⟩ | ⟨g', cap', cur, e1, g2, g3, g4, g5, g6, g7, g8⟩
    · omega
    rw [htv] at e1
    cases e1
    obtain ⟨hv, hvr⟩ := rel_cells hx h3
    have hs := run_sizeOf (w := w) hz
    have hvl : vx.cells.toList.length = d.cells.length := by simpa using hv
    have hpl : ∀ j, j < d.cells.length → (d.cells.getD j .any).plain = true := fun j hj => by
      rw [List.all_eq_true] at h4
      refine h4 _ ?_
      simp only [List.getD_eq_getElem?_getD, List.getElem?_eq_getElem hj, Option.getD_some]
      exact List.getElem_mem hj
    have h1c : ∀ v ∈ vx.cells.toList, v.oneCell' = true := by
      intro v hv'
      obtain ⟨j, hj, he⟩ := List.mem_iff_getElem.1 hv'
      rw [hvl] at hj
      have := (hvr j hj).one (D.one_of_plain (hpl j hj))
      rw [← he]
      have hj' : j < vx.cells.size := by omega
      simpa [Array.getD_eq_getD_getElem?, hj'] using this
    have hfl := (g6 i hi).1
    have hbound : i * e + e ≤ cap * e := by
      have : (i + 1) * e ≤ cap * e := Nat.mul_le_mul_right e (by omega)
      rw [Nat.add_mul] at this
      omega
    have hst := run_storeCells_at P g (i * e + off) el vx.cells.toList 0 cur w g2 (by rw [hvl]; omega) h1c
    simp only [Nat.add_zero] at hst
    have hb0 : (Loc.row (.slice (some ⟨g, 0, none⟩) len cap) len).block = some g := rfl
    have hch := Chg.setRow w S g cur (cur.toList.take (i * e + off) ++ vx.cells.toList ++ cur.toList.drop (i * e + off + vx.cells.toList.length)).toArray el (0, 0) g2 (fun o ho => absurd ho (g8 o))
    refine ⟨w.setRow g (cur.toList.take (i * e + off) ++ vx.cells.toList ++ cur.toList.drop (i * e + off + vx.cells.toList.length)).toArray, ?_, ?_, ?_, hch.cell⟩
    · simp only [Instr.storeAt, Instr.sureAddr, storeVar, Sem.run_bind, Sem.run_pure, Result.andThen_ok, hs]
      rw [if_neg (by omega)]
      exact hst
    · exact hH.chg hch (fun b' hb' => by cases hb'; exact hI.low k _ g (htv ▸ hk') hb0) (fun _ _ h => h) (fun _ _ h => .inl h)
    · refine hI.put hch (fun _ _ h => h) (RhoLe.refl r) k _ (.row tv len) ?_ hk' (fun _ _ => rfl)
        (fun b' hb' => .inr ⟨_, hk', hb'⟩) (fun b' hb' => ⟨_, htv ▸ hk', by cases hb'; rfl⟩) (fun _ _ h => .inl h)
      have hfit' : i * e + off + vx.cells.toList.length ≤ cur.toList.length := by simp; omega
      have hlen' := length_put cur.toList vx.cells.toList (i * e + off) hfit'
      have hfit2 : off + d.cells.length ≤ (f i).length := by omega
      refine ⟨tv, hk', .inr ⟨g, cap, _, htv, setRow_heap w g cur _ el (0, 0) g2, g3, g4, ?_, fun i' hi' => ?_, fun i' j hi' hj => ?_, g8⟩⟩
      · rw [List.size_toArray, hlen']
        simpa using g5
      · unfold putF
        by_cases hii : i' = i
        · rw [if_pos hii]
          unfold putCells
          refine ⟨by rw [length_put _ _ _ hfit2]; exact hfl, ?_⟩
          rw [List.all_eq_true] at h4 ⊢
          have g6' := (g6 i hi).2
          rw [List.all_eq_true] at g6'
          intro x hx'
          simp only [List.mem_append] at hx'
          rcases hx' with (hx' | hx') | hx'
          · exact g6' x (List.mem_of_mem_take hx')
          · exact h4 x hx'
          · exact g6' x (List.mem_of_mem_drop hx')
        · rw [if_neg hii]; exact g6 i' hi'
      · rw [getD_arr, getD_put _ _ _ _ _ hfit', hvl]
        have hold := (g7 i' j hi' hj).mono (fun _ _ h => h) hch.cell noRho (RhoLe.refl _)
        rw [hvl] at hold
        unfold putF
        by_cases hii : i' = i
        · subst hii
          rw [if_pos rfl]
          unfold putCells
          rw [getD_put _ _ _ _ _ hfit2]
          by_cases hcj : off ≤ j ∧ j < off + d.cells.length
          · rw [if_pos hcj, if_pos (by omega)]
            have hj2 : j - off < d.cells.length := by omega
            have h5 := ((hvr (j - off) hj2).plain (hpl _ hj2) noRho).mono (fun _ _ h => h) hch.cell noRho (RhoLe.refl _)
            rw [show i' * e + j - (i' * e + off) = j - off by omega]
            rw [hvl] at h5
            simpa [Array.getD_eq_getD_getElem?, List.getD_eq_getElem?_getD] using h5
          · rw [if_neg hcj, if_neg (by omega)]
            simpa [Array.getD_eq_getD_getElem?, List.getD_eq_getElem?_getD] using hold
        · rw [if_neg hii, if_neg ?_]
          · simpa [Array.getD_eq_getD_getElem?, List.getD_eq_getElem?_getD] using hold
          · intro hc
            rcases Nat.lt_or_gt_of_ne hii with h | h
            · have : (i' + 1) * e ≤ i * e := Nat.mul_le_mul_right e h
              rw [Nat.add_mul] at this
              omega
            · have : (i + 1) * e ≤ i' * e := Nat.mul_le_mul_right e h
              rw [Nat.add_mul] at this
              omega

/-- A row object that is new or has grown. -/
theorem row_ok (ar : Bool) {w w' : World} {S : Cells} {r : Rho} {g : Option Nat} {k : Nat} {el : TypeId} {z N cap blk : Nat} {cur : Array Value} {f : Nat → List D} {c : Nat → Nat → Value} (hH : Hist X w S) (hI : Inv X w S r O)
    (hc : Chg w w' S g) (hg : ∀ b, g = some b → ∃ l, r k = some l ∧ l.block = some b)
    (hnew : (w.heap.size ≤ blk ∧ blk < w'.heap.size ∧ X.w0.heap.size ≤ blk) ∨ (∃ l, r k = some l ∧ l.block = some blk ∧ blk < w'.heap.size))
    (hle : RhoLe r (updR r k (.row (.slice (some ⟨blk, 0, none⟩) N cap) N)))
    (hb : w'.heap[blk]? = some (.cells cur el (0, 0))) (hN : N ≤ cap) (hm : cap ≤ maxLen) (hsz : cur.size = cap * z)
    (hcur : ∀ i j, i < N → j < z → cur[i * z + j]? = some (c i j)) (hold : ∀ o, (ar = true ∨ N * z ≤ o) → ¬ S blk o)
    (hl : ∀ i, i < N → (f i).length = z ∧ (f i).all D.plain = true) (hr : ∀ i j, i < N → j < z → Rel S w noRho ((f i).getD j .any) (c i j)) :
    ∃ S' r', Rel S' w' r' (mkH ar k z N f) (.slice (some ⟨blk, 0, none⟩) N cap) ∧ Hist X w' S' ∧ Inv X w' S' r' (updO O [(k, mkO ar el z N f)]) ∧ (∀ b o, S b o → S' b o) ∧
      (∀ b o, S b o → w'.cell? ⟨b, o, none⟩ = w.cell? ⟨b, o, none⟩) ∧ RhoLe r r' := by
  have hk0 : updR r k (.row (.slice (some ⟨blk, 0, none⟩) N cap) N) k = some (.row (.slice (some ⟨blk, 0, none⟩) N cap) N) := by simp [updR]
  have hlow : X.w0.heap.size ≤ blk ∨ X.L blk := by
    rcases hnew with ⟨_, _, h⟩ | ⟨l, h1, h2, _⟩
    · exact .inl h
    · exact hI.low k l blk h1 h2
  have hblt : blk < w'.heap.size := by
    rcases hnew with ⟨_, h, _⟩ | ⟨_, _, _, h⟩ <;> exact h
  have hmono : ∀ d v, Rel S w noRho d v → Rel (fun b o => S b o ∨ (b = blk ∧ o < N * z)) w' noRho d v := fun d v h => h.mono (fun _ _ h => .inl h) hc.cell noRho (RhoLe.refl _)
  have hblk : ∀ b, (Loc.row (.slice (some ⟨blk, 0, none⟩) N cap) N).block = some b → (w.heap.size ≤ b ∧ (X.w0.heap.size ≤ b ∨ X.L b)) ∨ ∃ l, r k = some l ∧ l.block = some b := fun b hb' => by
    simp only [Loc.block, Option.some.injEq] at hb'
    subst hb'
    rcases hnew with ⟨h1, _, h3⟩ | ⟨l, h1, h2, _⟩
    · exact .inl ⟨h1, .inl h3⟩
    · exact .inr ⟨l, h1, h2⟩
  cases ar with
  | true =>
    refine ⟨S, updR r k (.row (.slice (some ⟨blk, 0, none⟩) N cap) N), .ah _ k z N cap _ _ N hk0 (Nat.le_refl _) (fun _ => .inl rfl) (fun _ => ⟨blk, rfl⟩), ?_, ?_, fun _ _ h => h, hc.cell, hle⟩
    · refine hH.chg hc (fun b hb => ?_) (fun _ _ h => h) (fun b o h => .inl h)
      obtain ⟨l, h1, h2⟩ := hg b hb
      exact hI.low k l b h1 h2
    · refine hI.put hc (fun _ _ h => h) hle k _ (.row (.slice (some ⟨blk, 0, none⟩) N cap) N) ?_ hk0 (fun j hj => by simp [updR, hj]) hblk hg (fun b o h => .inl h)
      refine ⟨_, hk0, .inr ⟨blk, cap, cur, rfl, hb, hN, hm, hsz, hl, fun i j hi hj => ?_, fun o => hold o (.inl rfl)⟩⟩
      rw [Array.getD_eq_getD_getElem?, hcur i j hi hj]
      exact (hr i j hi hj).mono (fun _ _ h => h) hc.cell noRho (RhoLe.refl _)
  | false =>
    refine ⟨fun b o => S b o ∨ (b = blk ∧ o < N * z), updR r k (.row (.slice (some ⟨blk, 0, none⟩) N cap) N), ?_, ?_, ?_, fun _ _ h => .inl h, hc.cell, hle⟩
    · refine .gs _ k z N f _ _ N (rel_row (c := c) hb hN hm hcur (fun i j hi hj => .inr ⟨rfl, ?_⟩) hl (fun i j hi hj => hmono _ _ (hr i j hi hj))) hk0 (Nat.le_refl _) (fun _ => .inl rfl)
      have : (i + 1) * z ≤ N * z := Nat.mul_le_mul_right z hi
      rw [Nat.add_mul] at this
      omega
    · refine hH.chg hc (fun b hb => ?_) (fun _ _ h => .inl h) (fun b o h => ?_)
      · obtain ⟨l, h1, h2⟩ := hg b hb
        exact hI.low k l b h1 h2
      · rcases h with h | ⟨rfl, _⟩
        · exact .inl h
        · exact .inr ⟨hlow, hblt⟩
    · refine hI.put hc (fun _ _ h => .inl h) hle k _ (.row (.slice (some ⟨blk, 0, none⟩) N cap) N) ?_ hk0 (fun j hj => by simp [updR, hj]) hblk hg (fun b o h => ?_)
      · refine ⟨_, hk0, .inr ⟨blk, cap, cur, rfl, hb, hN, hm, hsz, fun o ho h => ?_⟩⟩
        rcases h with h | ⟨_, h⟩
        · exact hold o (.inr ho) h
        · omega
      · rcases h with h | ⟨rfl, _⟩
        · exact .inl h
        · exact .inr (.inl rfl)

theorem grow_fits {n m cap by' : Nat} (h : cap < n + m) (hb : (n + m) * by' ≤ 140737488355328) : Builtin.nextslicecap (n + m) cap * by' ≤ 281474976710656 := growslice_fits h hb

/-- The cells of a slice that is told by data. -/
theorem sl_cells {S : Cells} {w : World} {r : Rho} {z m : Nat} {f : Nat → List D} {v : Value} (h : Rel S w r (.sl z m f) v) :
    ∃ (a : Option Addr) (cap : Nat) (c : Nat → Nat → Value), v = .slice a m cap ∧ m ≤ cap ∧ cap ≤ maxLen ∧ (∀ i, i < m → (f i).length = z ∧ (f i).all D.plain = true) ∧ (∀ i j, i < m → j < z → Rel S w noRho ((f i).getD j .any) (c i j)) ∧
      (∀ i j, i < m → j < z → ∃ b o, a = some ⟨b, o, none⟩ ∧ S b (o + i * z + j) ∧ w.cell? ⟨b, o + i * z + j, none⟩ = some (c i j)) := by
  cases h with
  | sl _ _ _ _ a cap c hc hm hl hcell hr => exact ⟨a, cap, c, rfl, hc, hm, hl, hr, hcell⟩

/-- Cells in a list of their own. -/
theorem flat_cells {w : World} {S : Cells} {z m : Nat} {c : Nat → Nat → Value} {ad : Addr} (hcell : ∀ i j, i < m → j < z → ∃ b o, some ad = some (⟨b, o, none⟩ : Addr) ∧ S b (o + i * z + j) ∧ w.cell? ⟨b, o + i * z + j, none⟩ = some (c i j)) :
    ∀ j u, (flat z m c)[j]? = some u → w.cell? (ad.add j) = some u := by
  intro p u hu
  have hp : p < m * z := by
    have := (List.getElem?_eq_some_iff.1 hu).1
    rwa [flat_length] at this
  obtain ⟨i, j, rfl, hi, hj⟩ := flat_split hp
  rw [flat_at c hi hj] at hu
  cases hu
  obtain ⟨b, o, he, _, hc⟩ := hcell i j hi hj
  cases he
  rw [Addr.add_lit]
  rw [Nat.add_assoc] at hc
  exact hc

theorem cat_at {z n m i j : Nat} {c1 c2 : Nat → Nat → Value} (rest : List Value) (hi : i < n + m) (hj : j < z) :
    (flat z n c1 ++ flat z m c2 ++ rest)[i * z + j]? = some (if i < n then c1 i j else c2 (i - n) j) := by
  by_cases h : i < n
  · have h1 : i * z + j < (flat z n c1).length := by
      rw [flat_length]
      have : (i + 1) * z ≤ n * z := Nat.mul_le_mul_right z h
      rw [Nat.add_mul] at this
      omega
    rw [List.append_assoc, List.getElem?_append_left h1, flat_at c1 h hj, if_pos h]
  · have hi' : i - n < m := by omega
    have e : i * z + j = n * z + ((i - n) * z + j) := by
      have : i * z = n * z + (i - n) * z := by rw [← Nat.add_mul]; congr 1; omega
      omega
    have h2 : (i - n) * z + j < (flat z m c2).length := by
      rw [flat_length]
      have : (i - n + 1) * z ≤ m * z := Nat.mul_le_mul_right z hi'
      rw [Nat.add_mul] at this
      omega
    rw [e, List.append_assoc, List.getElem?_append_right (by rw [flat_length]; omega), flat_length]
    rw [show n * z + ((i - n) * z + j) - n * z = (i - n) * z + j by omega]
    rw [List.getElem?_append_left h2, flat_at c2 hi' hj, if_neg h]

theorem cat_data {z n m : Nat} {S : Cells} {w : World} {f g : Nat → List D} {c1 c2 : Nat → Nat → Value}
    (hl : ∀ i, i < n → (f i).length = z ∧ (f i).all D.plain = true) (hr : ∀ i j, i < n → j < z → Rel S w noRho ((f i).getD j .any) (c1 i j))
    (hl2 : ∀ i, i < m → (g i).length = z ∧ (g i).all D.plain = true) (hr2 : ∀ i j, i < m → j < z → Rel S w noRho ((g i).getD j .any) (c2 i j)) :
    (∀ i, i < n + m → (catF n f m g i).length = z ∧ (catF n f m g i).all D.plain = true) ∧
    (∀ i j, i < n + m → j < z → Rel S w noRho ((catF n f m g i).getD j .any) (if i < n then c1 i j else c2 (i - n) j)) := by
  refine ⟨fun i hi => ?_, fun i j hi hj => ?_⟩
  · unfold catF
    by_cases h : i < n
    · rw [if_pos h]; exact hl i h
    · rw [if_neg h, if_pos hi]; exact hl2 (i - n) (by omega)
  · unfold catF
    by_cases h : i < n
    · rw [if_pos h, if_pos h]; exact hr i j h hj
    · rw [if_neg h, if_pos hi, if_neg h]; exact hr2 (i - n) j (by omega) hj

theorem zeroCells_size (z : Array Value) (n : Nat) : (Builtin.zeroCells z n).size = n * z.size := by simp [Builtin.zeroCells]

/-- What a row of the call's own is, of either kind. -/
theorem mkO_obj {ar : Bool} {S : Cells} {w : World} {r : Rho} {k : Nat} {el : TypeId} {z L : Nat} {f : Nat → List D} (h : ObjOk S w r k (mkO ar el z L f)) : ∃ tv, r k = some (.row tv L) ∧ ((tv = .slice none 0 0 ∧ L = 0) ∨
      ∃ g cap cur, tv = .slice (some ⟨g, 0, none⟩) L cap ∧ w.heap[g]? = some (.cells cur el (0, 0)) ∧ L ≤ cap ∧ cap ≤ maxLen ∧ cur.size = cap * z ∧ ∀ o, (ar = true ∨ L * z ≤ o) → ¬ S g o) := by
  cases ar with
  | true =>
    obtain ⟨tv, h1, h2⟩ := h
    refine ⟨tv, h1, ?_⟩
    rcases h2 with h2 | ⟨g, cap, cur, h2, h3, h4, h5, h6, _, _, h7⟩
    · exact .inl h2
    · exact .inr ⟨g, cap, cur, h2, h3, h4, h5, h6, fun o _ => h7 o⟩
  | false =>
    obtain ⟨tv, h1, h2⟩ := h
    refine ⟨tv, h1, ?_⟩
    rcases h2 with h2 | ⟨g, cap, cur, h2, h3, h4, h5, h6, h7⟩
    · exact .inl h2
    · exact .inr ⟨g, cap, cur, h2, h3, h4, h5, h6, fun o h => h7 o (by
        rcases h with h | h
        · cases h
        · exact h)⟩

theorem first_cells {w : World} {z L cap : Nat} {ax : Option Addr} {c1 : Nat → Nat → Value} (hz : 0 < z) (hcell : ∀ i j, i < L → j < z → ∃ b o, ax = some ⟨b, o, none⟩ ∧ w.cell? ⟨b, o + i * z + j, none⟩ = some (c1 i j)) :
    (Builtin.firstCells z L (.slice ax L cap)).run P w = .ok (flat z L c1).toArray w := by
  cases ax with
  | none =>
    rw [run_firstCells_none]
    rcases Nat.eq_zero_or_pos L with rfl | h
    · simp [flat]
    · obtain ⟨b, o, h1, _⟩ := hcell 0 0 h hz
      cases h1
  | some ad =>
    refine run_firstCells_some w z L ad L cap _ (flat_length ..) (fun p u hu => ?_)
    have hp : p < L * z := by
      have := (List.getElem?_eq_some_iff.1 hu).1
      rwa [flat_length] at this
    obtain ⟨i, j, rfl, hi, hj⟩ := flat_split hp
    rw [flat_at c1 hi hj] at hu
    cases hu
    obtain ⟨b, o, he, hc⟩ := hcell i j hi hj
    cases he
    rw [Addr.add_lit]
    rw [Nat.add_assoc] at hc
    exact hc

/-- Room behind the last element: they are written there. -/
theorem append_room_row {w : World} {t tx ty e : TypeId} {i : TypeInfo} (ht : P.underlying t = some (.slice e)) (hi : P.info? e = some i) {g sLen sCap : Nat} {cur : Array Value} (hg : w.heap[g]? = some (.cells cur e (0, 0)))
    {x : Value} {m : Nat} {news : List Value} (hs : Src P i.size tx x m news w) (hroom : sLen + m ≤ sCap) (hfit : sLen * i.size + news.length ≤ cur.size) :
    (Builtin.append_ #[t, tx] ty #[.slice (some ⟨g, 0, none⟩) sLen sCap, x]).run P w =
      .ok (.slice (some ⟨g, 0, none⟩) (sLen + m) sCap) (w.setRow g (cur.toList.take (sLen * i.size) ++ news ++ cur.toList.drop (sLen * i.size + news.length)).toArray) := by
  have hst := run_storeCells_at P g (sLen * i.size) e news 0 cur w hg (by simpa using hfit) hs.one
  simp only [Nat.add_zero] at hst
  have hlen := hs.len w
  have hcs := hs.cells
  rcases hs.kind with ⟨e', hk⟩ | hk <;> simp [Builtin.append_, run_underlying ht, run_underlying hk, sizeOf, typeInfo, hi, hlen, hroom, hcs, Addr.add_lit, hst]

/-- append, at least one element, to a row of the call's own. -/
theorem append_ok (ar : Bool) {w : World} {S : Cells} {r : Rho} {t tx ty el : TypeId} {i : TypeInfo} {zv : Value} {k L : Nat} {z : Nat} {m capx : Nat} {ax : Option Addr} {f g : Nat → List D} {c1 c2 : Nat → Nat → Value} {vy : Value} (hH : Hist X w S) (hI : Inv X w S r O)
    (ht : P.underlying t = some (.slice el)) (hi : P.info? el = some i) (hz : i.size = z) (hzv : i.zero = some zv) (hzs : zv.cells.size = z) (hz0 : 0 < z) (hcx : L ≤ capx)
    (hl1 : ∀ i, i < L → (f i).length = z ∧ (f i).all D.plain = true) (hr1 : ∀ i j, i < L → j < z → Rel S w noRho ((f i).getD j .any) (c1 i j))
    (hcell1 : ∀ i j, i < L → j < z → ∃ b o, ax = some ⟨b, o, none⟩ ∧ w.cell? ⟨b, o + i * z + j, none⟩ = some (c1 i j))
    (hsrc : Src P z tx vy m (flat z m c2) w)
    (hl2 : ∀ i, i < m → (g i).length = z ∧ (g i).all D.plain = true) (hr2 : ∀ i j, i < m → j < z → Rel S w noRho ((g i).getD j .any) (c2 i j))
    (hm : 0 < m) (hmax : L + m ≤ maxLen) (hby : (L + m) * i.bytes ≤ 140737488355328)
    (hk : (O k = none ∧ L = 0 ∧ capx = 0) ∨ (O k = some (mkO ar el z L f) ∧ ∀ tv, r k = some (.row tv L) → Tip (.slice ax L capx) tv)) :
    ∃ v w', (Builtin.append_ #[t, tx] ty #[.slice ax L capx, vy]).run P w = .ok v w' ∧ ∃ S' r', Rel S' w' r' (mkH ar k z (L + m) (catF L f m g)) v ∧ Hist X w' S' ∧ Inv X w' S' r' (updO O [(k, mkO ar el z (L + m) (catF L f m g))]) ∧
      (∀ b o, S b o → S' b o) ∧ (∀ b o, S b o → w'.cell? ⟨b, o, none⟩ = w.cell? ⟨b, o, none⟩) ∧ RhoLe r r' := by
  subst hz
  have hnl : (flat i.size m c2).length = m * i.size := flat_length ..
  obtain ⟨hcl, hcr⟩ := cat_data hl1 hr1 hl2 hr2
  have hi63 : ((L + m : Nat) : Int) ≤ 9223372036854775807 := by unfold maxLen at hmax; omega
  have newBlock : capx < L + m → (∀ cap', RhoLe r (updR r k (.row (.slice (some ⟨w.heap.size, 0, none⟩) (L + m) cap') (L + m)))) →
      ∃ v w', (Builtin.append_ #[t, tx] ty #[.slice ax L capx, vy]).run P w = .ok v w' ∧ ∃ S' r', Rel S' w' r' (mkH ar k i.size (L + m) (catF L f m g)) v ∧ Hist X w' S' ∧ Inv X w' S' r' (updO O [(k, mkO ar el i.size (L + m) (catF L f m g))]) ∧
        (∀ b o, S b o → S' b o) ∧ (∀ b o, S b o → w'.cell? ⟨b, o, none⟩ = w.cell? ⟨b, o, none⟩) ∧ RhoLe r r' := by
    intro hlt hle
    have hge := grownCap_ge w (L + m) capx el
    have hcm : grownCap w (L + m) capx el ≤ maxLen := grownCap_le_maxLen w (L + m) capx el hmax
    have hrun := run_append_grow_src (P := P) w t tx ty el i zv ht hi hzv ax L capx (flat i.size L c1)
      (first_cells (P := P) (w := w.drew) hz0 (fun i' j hi' hj => by
        obtain ⟨b, o, h1, h2⟩ := hcell1 i' j hi' hj
        exact ⟨b, o, h1, by simpa using h2⟩)) vy m (flat i.size m c2) hsrc hlt hi63 (grow_fits hlt hby)
    refine ⟨_, _, hrun, ?_⟩
    refine row_ok ar (g := none) (c := fun i' j => if i' < L then c1 i' j else c2 (i' - L) j) hH hI (Chg.drewAlloc w S hH.valid _ none) (fun b hb => by cases hb)
      (.inl ⟨Nat.le_refl _, by simp, hH.size⟩) (hle _) (heap_alloc_new w.drew _) hge hcm ?_ (fun i' j hi' hj => ?_) (fun o _ hs => ?_) hcl hcr
    · simp only [Array.size_append, List.size_toArray, List.length_append, zeroCells_size, hzs, flat_length, ← Nat.add_mul]
      congr 1
      omega
    · have := cat_at (c1 := c1) (c2 := c2) (Builtin.zeroCells zv.cells (grownCap w (L + m) capx el - (L + m))).toList hi' hj
      rw [← this, ← Array.getElem?_toList]
      simp
    · have := hH.valid _ _ hs; omega
  rcases hk with ⟨hk, rfl, rfl⟩ | ⟨hk, htip⟩
  · exact newBlock (by omega) (fun _ => RhoLe.new (hI.dom k hk))
  · obtain ⟨tv, htv, hrow⟩ := mkO_obj (hI.obj k _ hk)
    have hle : ∀ blk cap', RhoLe r (updR r k (.row (.slice (some ⟨blk, 0, none⟩) (L + m) cap') (L + m))) := fun blk cap' => RhoLe.upd htv ⟨by omega, fun e => by omega⟩
    rcases htip tv htv with htip | ⟨_, a2, htip⟩
    · rcases hrow with ⟨hnil, rfl⟩ | ⟨b, cap, cur, htv', hb, hLc, hcm, hsz, hfree⟩
      · rw [hnil] at htip
        simp only [Value.slice.injEq] at htip
        exact newBlock (by omega) (fun _ => hle _ _)
      · rw [htv'] at htip
        simp only [Value.slice.injEq] at htip
        obtain ⟨rfl, _, rfl⟩ := htip
        subst htv'
        have hblt : b < w.heap.size := (Array.getElem?_eq_some_iff.1 hb).1
        by_cases hroom : L + m ≤ capx
        · have hfit : L * i.size + (flat i.size m c2).length ≤ cur.size := by
            rw [flat_length, hsz, ← Nat.add_mul]
            exact Nat.mul_le_mul_right _ hroom
          have hrun := append_room_row (P := P) (w := w) (ty := ty) ht hi hb hsrc hroom hfit
          have hold : ∀ o, S b o → (cur.toList.take (L * i.size) ++ flat i.size m c2 ++ cur.toList.drop (L * i.size + (flat i.size m c2).length)).toArray[o]? = cur[o]? := by
            intro o ho
            have hlt : o < L * i.size := by
              rcases Nat.lt_or_ge o (L * i.size) with h | h
              · exact h
              · exact absurd ho (hfree o (.inr h))
            rw [List.getElem?_toArray, List.append_assoc, List.getElem?_append_left (by simp; omega), List.getElem?_take_of_lt hlt, Array.getElem?_toList]
          refine ⟨_, _, hrun, ?_⟩
          refine row_ok ar (el := el) (z := i.size) (N := L + m) (cap := capx) (f := catF L f m g) (k := k) (c := fun i' j => if i' < L then c1 i' j else c2 (i' - L) j) hH hI (Chg.setRow w S b cur _ el (0, 0) hb hold)
            (fun b' hb' => ⟨_, htv, by cases hb'; rfl⟩) (.inr ⟨_, htv, rfl, by simpa using hblt⟩) (hle _ _) (setRow_heap w b cur _ el (0, 0) hb) hroom hcm
            (by simp only [List.size_toArray, List.length_append, List.length_take, List.length_drop, Array.length_toList]; omega)
            (fun i' j hi' hj => by
              have e : cur.toList.take (L * i.size) = flat i.size L c1 := by
                apply List.ext_getElem?
                intro p
                by_cases hp : p < L * i.size
                · obtain ⟨i2, j2, rfl, h2, h3⟩ := flat_split hp
                  rw [List.getElem?_take_of_lt hp, flat_at c1 h2 h3, Array.getElem?_toList]
                  obtain ⟨b', o', he, hc'⟩ := hcell1 i2 j2 h2 h3
                  cases he
                  rw [Nat.zero_add, cell_of_row w b _ cur el (0, 0) hb] at hc'
                  exact hc'
                · rw [List.getElem?_eq_none (by simp; omega), List.getElem?_eq_none (by rw [flat_length]; omega)]
              rw [List.getElem?_toArray, e]
              exact cat_at _ hi' hj)
            (fun o ho => hfree o (by
              rcases ho with h | h
              · exact .inl h
              · exact .inr (Nat.le_trans (Nat.mul_le_mul_right _ (by omega)) h))) hcl hcr
        · exact newBlock (by omega) (fun _ => hle _ _)
    · simp only [Value.slice.injEq] at htip
      exact newBlock (by omega) (fun _ => hle _ _)

end
end Go.Proofs.YteidmimpkipcfaaDoor.Flow
