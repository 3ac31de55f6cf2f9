/-
  FLOW, PART G: STORES, LITERALS, APPEND, CONVERSIONS.
-/
import Derived.Test.YtejpliaomhpakaaFlowF
namespace Go.Proofs.Ytejpliaomhpakaa.Flow

section
variable {P : Program} {X : Ctx} {n : Nat} {o : Oper} {F : Nat → D} {O O' : Nat → Option Own}

theorem updO_one (O : Nat → Option Own) (k : Nat) (ob : Own) : updO O [(k, ob)] = fun j => if j = k then some ob else O j := rfl

/-- A store into a variable of the call's own. -/
theorem store_ok {w : World} {S : Cells} {r : Rho} {t : TypeId} {z : Nat × Bool} {k off : Nat} {cs : List D} {d : D} {va vx : Value} (hH : Hist X w S) (hI : Inv X w S r O)
    (ha : Rel S w r (.pv k off) va) (hx : Rel S w r d vx) (hz : szOf P t = some z) (hk : O k = some (.var cs)) (h1 : d.cells.length = z.1) (h2 : off + d.cells.length ≤ cs.length)
    (h3 : d.solid = true) (h4 : d.cells.all D.one = true) :
    ∃ w' , (Instr.storeAt t va vx).run P w = .ok () w' ∧ Hist X w' S ∧ Inv X w' S r (updO O [(k, .var (putCells cs off d.cells))]) ∧ (∀ b o, S b o → w'.cell? ⟨b, o, none⟩ = w.cell? ⟨b, o, none⟩) := by
  cases ha with
  | pv _ _ _ b hb =>
    obtain ⟨b', cur, e, g1, g2, g3, g4, g5⟩ := hI.obj k _ hk
    rw [hb] at g1
    cases g1
    obtain ⟨hv, hvr⟩ := rel_cells hx h3
    have hs := run_sizeOf (w := w) hz
    have hvl : vx.cells.toList.length = d.cells.length := by simpa using hv
    have h1c : ∀ v ∈ vx.cells.toList, v.oneCell' = true := by
      intro v hv'
      obtain ⟨j, hj, he⟩ := List.mem_iff_getElem.1 hv'
      rw [hvl] at hj
      have hrj := hvr j hj
      have hone : (d.cells.getD j .any).one = true := by
        rw [List.all_eq_true] at h4
        refine h4 _ ?_
        simp only [List.getD_eq_getElem?_getD, List.getElem?_eq_getElem hj, Option.getD_some]
        exact List.getElem_mem hj
      have := hrj.one hone
      rw [← he]
      have hj' : j < vx.cells.size := by omega
      simpa [Array.getD_eq_getD_getElem?, hj'] using this
    have hst := run_storeCells_at P b off e vx.cells.toList 0 cur w g2 (by rw [hvl]; omega) h1c
    simp only [Nat.add_zero] at hst
    refine ⟨w.setRow b (cur.toList.take off ++ vx.cells.toList ++ cur.toList.drop (off + vx.cells.toList.length)).toArray, ?_, ?_, ?_, ?_⟩
    · simp only [Instr.storeAt, Instr.sureAddr, storeVar, Sem.run_bind, Sem.run_pure, Result.andThen_ok, hs]
      rw [if_neg (by omega)]
      exact hst
    · exact hH.chg (Chg.setRow w S b cur _ e (0, 0) g2 (fun o ho => absurd ho (g5 o))) (fun b' hb' => by cases hb'; exact hI.low k _ b hb rfl) (fun _ _ h => h) (fun _ _ h => .inl h)
    · refine hI.put (Chg.setRow w S b cur _ e (0, 0) g2 (fun o ho => absurd ho (g5 o))) (fun _ _ h => h) (RhoLe.refl r) k _ (.blk b) ?_ hb (fun _ _ => rfl)
        (fun b' hb' => .inr ⟨_, hb, hb'⟩) (fun b' hb' => ⟨_, hb, by cases hb'; rfl⟩) (fun _ _ h => .inl h)
      have hlen := length_put cs d.cells off h2
      have hfit' : off + vx.cells.toList.length ≤ cur.toList.length := by simp; omega
      have hlen' := length_put cur.toList vx.cells.toList off hfit'
      have hc := (Chg.setRow w S b cur (cur.toList.take off ++ vx.cells.toList ++ cur.toList.drop (off + vx.cells.toList.length)).toArray e (0, 0) g2 (fun o ho => absurd ho (g5 o))).cell
      refine ⟨b, _, e, hb, setRow_heap w b cur _ e (0, 0) g2, ?_, fun j hj => ?_, g5⟩
      · unfold putCells
        rw [hlen, List.size_toArray, hlen']
        simpa using g3
      · unfold putCells at hj ⊢
        rw [hlen] at hj
        rw [getD_put _ _ _ _ _ h2, getD_arr, getD_put _ _ _ _ _ hfit', hvl]
        by_cases hcj : off ≤ j ∧ j < off + d.cells.length
        · rw [if_pos hcj, if_pos hcj]
          have hj2 : j - off < d.cells.length := by omega
          have h5 := hvr (j - off) hj2
          refine ⟨?_, ?_⟩
          · have := h5.mono (fun _ _ h => h) hc r (RhoLe.refl r)
            rw [hvl] at this
            simpa [Array.getD_eq_getD_getElem?, List.getD_eq_getElem?_getD] using this
          · rw [List.all_eq_true] at h4
            refine h4 _ ?_
            simp only [List.getD_eq_getElem?_getD, List.getElem?_eq_getElem hj2, Option.getD_some]
            exact List.getElem_mem hj2
        · rw [if_neg hcj, if_neg hcj]
          have h5 := g4 j hj
          refine ⟨?_, h5.2⟩
          have := h5.1.mono (fun _ _ h => h) hc r (RhoLe.refl r)
          rw [hvl] at this
          simpa [Array.getD_eq_getD_getElem?, List.getD_eq_getElem?_getD] using this
    · exact (Chg.setRow w S b cur _ e (0, 0) g2 (fun o ho => absurd ho (g5 o))).cell

/-- A row object that is new or has grown. -/
theorem row_ok {w w' : World} {S : Cells} {r : Rho} {g : Option Nat} {k : Nat} {el : TypeId} {z N cap blk : Nat} {cur : Array Value} {f : Nat → List D} {c : Nat → Nat → Value} (hH : Hist X w S) (hI : Inv X w S r O)
    (hc : Chg w w' S g) (hg : ∀ b, g = some b → ∃ l, r k = some l ∧ l.block = some b)
    (hnew : (w.heap.size ≤ blk ∧ blk < w'.heap.size ∧ X.w0.heap.size ≤ blk) ∨ (∃ l, r k = some l ∧ l.block = some blk ∧ blk < w'.heap.size))
    (hle : RhoLe r (updR r k (.row (.slice (some ⟨blk, 0, none⟩) N cap) N)))
    (hb : w'.heap[blk]? = some (.cells cur el (0, 0))) (hN : N ≤ cap) (hm : cap ≤ maxLen) (hsz : cur.size = cap * z)
    (hcur : ∀ i j, i < N → j < z → cur[i * z + j]? = some (c i j)) (hold : ∀ o, N * z ≤ o → ¬ S blk o)
    (hl : ∀ i, i < N → (f i).length = z ∧ (f i).all D.plain = true) (hr : ∀ i j, i < N → j < z → Rel S w noRho ((f i).getD j .any) (c i j)) :
    ∃ S' r', Rel S' w' r' (.gs k z N f) (.slice (some ⟨blk, 0, none⟩) N cap) ∧ Hist X w' S' ∧ Inv X w' S' r' (updO O [(k, .row el z N)]) ∧ (∀ b o, S b o → S' b o) ∧
      (∀ b o, S b o → w'.cell? ⟨b, o, none⟩ = w.cell? ⟨b, o, none⟩) ∧ RhoLe r r' := by
  have hk0 : updR r k (.row (.slice (some ⟨blk, 0, none⟩) N cap) N) k = some (.row (.slice (some ⟨blk, 0, none⟩) N cap) N) := by simp [updR]
  have hlow : X.w0.heap.size ≤ blk ∨ X.L blk := by
    rcases hnew with ⟨_, _, h⟩ | ⟨l, h1, h2, _⟩
    · exact .inl h
    · exact hI.low k l blk h1 h2
  have hblt : blk < w'.heap.size := by
    rcases hnew with ⟨_, h, _⟩ | ⟨_, _, _, h⟩ <;> exact h
  have hmono : ∀ d v, Rel S w noRho d v → Rel (fun b o => S b o ∨ (b = blk ∧ o < N * z)) w' noRho d v := fun d v h => h.mono (fun _ _ h => .inl h) hc.cell noRho (RhoLe.refl _)
  refine ⟨fun b o => S b o ∨ (b = blk ∧ o < N * z), updR r k (.row (.slice (some ⟨blk, 0, none⟩) N cap) N), ?_, ?_, ?_, fun _ _ h => .inl h, hc.cell, hle⟩
  · refine .gs _ k z N f _ _ N (rel_row (c := c) hb hN hm hcur (fun i j hi hj => .inr ⟨rfl, ?_⟩) hl (fun i j hi hj => hmono _ _ (hr i j hi hj))) hk0 (Nat.le_refl _) (fun _ => rfl)
    have : (i + 1) * z ≤ N * z := Nat.mul_le_mul_right z hi
    rw [Nat.add_mul] at this
    omega
  · refine hH.chg hc (fun b hb => ?_) (fun _ _ h => .inl h) (fun b o h => ?_)
    · obtain ⟨l, h1, h2⟩ := hg b hb
      exact hI.low k l b h1 h2
    · rcases h with h | ⟨rfl, _⟩
      · exact .inl h
      · exact .inr ⟨hlow, hblt⟩
  · refine hI.put hc (fun _ _ h => .inl h) hle k _ (.row (.slice (some ⟨blk, 0, none⟩) N cap) N) ?_ hk0 (fun j hj => by simp [updR, hj]) (fun b hb' => ?_) hg (fun b o h => ?_)
    · refine ⟨_, hk0, .inr ⟨blk, cap, cur, rfl, hb, hN, hm, hsz, fun o ho h => ?_⟩⟩
      rcases h with h | ⟨_, h⟩
      · exact hold o ho h
      · omega
    · simp only [Loc.block, Option.some.injEq] at hb'
      subst hb'
      rcases hnew with ⟨h1, _, h3⟩ | ⟨l, h1, h2, _⟩
      · exact .inl ⟨h1, .inl h3⟩
      · exact .inr ⟨l, h1, h2⟩
    · rcases h with h | ⟨rfl, _⟩
      · exact .inl h
      · exact .inr (.inl rfl)

theorem grow_fits {n m cap by' : Nat} (h : cap < n + m) (hb : (n + m) * by' ≤ 140737488355328) : Builtin.nextslicecap (n + m) cap * by' ≤ 281474976710656 := growslice_fits h hb

/-- The cells of a slice that is told by data. -/
theorem sl_cells {S : Cells} {w : World} {r : Rho} {z m : Nat} {f : Nat → List D} {v : Value} (h : Rel S w r (.sl z m f) v) :
    ∃ (a : Option Addr) (cap : Nat) (c : Nat → Nat → Value), v = .slice a m cap ∧ m ≤ cap ∧ cap ≤ maxLen ∧ (∀ i, i < m → (f i).length = z ∧ (f i).all D.plain = true) ∧ (∀ i j, i < m → j < z → Rel S w noRho ((f i).getD j .any) (c i j)) ∧
      (∀ i j, i < m → j < z → ∃ b o, a = some ⟨b, o, none⟩ ∧ S b (o + i * z + j) ∧ w.cell? ⟨b, o + i * z + j, none⟩ = some (c i j)) := by
  cases h with
  | sl _ _ _ _ a cap c hc hm hl hcell hr => exact ⟨a, cap, c, rfl, hc, hm, hl, hr, hcell⟩

/-- Cells in a list of their own. -/
theorem flat_cells {w : World} {S : Cells} {z m : Nat} {c : Nat → Nat → Value} {ad : Addr} (hcell : ∀ i j, i < m → j < z → ∃ b o, some ad = some (⟨b, o, none⟩ : Addr) ∧ S b (o + i * z + j) ∧ w.cell? ⟨b, o + i * z + j, none⟩ = some (c i j)) :
    ∀ j u, (flat z m c)[j]? = some u → w.cell? (ad.add j) = some u := by
  intro p u hu
  have hp : p < m * z := by
    have := (List.getElem?_eq_some_iff.1 hu).1
    rwa [flat_length] at this
  obtain ⟨i, j, rfl, hi, hj⟩ := flat_split hp
  rw [flat_at c hi hj] at hu
  cases hu
  obtain ⟨b, o, he, _, hc⟩ := hcell i j hi hj
  cases he
  rw [Addr.add_lit]
  rw [Nat.add_assoc] at hc
  exact hc

theorem cat_at {z n m i j : Nat} {c1 c2 : Nat → Nat → Value} (rest : List Value) (hi : i < n + m) (hj : j < z) :
    (flat z n c1 ++ flat z m c2 ++ rest)[i * z + j]? = some (if i < n then c1 i j else c2 (i - n) j) := by
  by_cases h : i < n
  · have h1 : i * z + j < (flat z n c1).length := by
      rw [flat_length]
      have : (i + 1) * z ≤ n * z := Nat.mul_le_mul_right z h
      rw [Nat.add_mul] at this
      omega
    rw [List.append_assoc, List.getElem?_append_left h1, flat_at c1 h hj, if_pos h]
  · have hi' : i - n < m := by omega
    have e : i * z + j = n * z + ((i - n) * z + j) := by
      have : i * z = n * z + (i - n) * z := by rw [← Nat.add_mul]; congr 1; omega
      omega
    have h2 : (i - n) * z + j < (flat z m c2).length := by
      rw [flat_length]
      have : (i - n + 1) * z ≤ m * z := Nat.mul_le_mul_right z hi'
      rw [Nat.add_mul] at this
      omega
    rw [e, List.append_assoc, List.getElem?_append_right (by rw [flat_length]; omega), flat_length]
    rw [show n * z + ((i - n) * z + j) - n * z = (i - n) * z + j by omega]
    rw [List.getElem?_append_left h2, flat_at c2 hi' hj, if_neg h]

theorem cat_data {z n m : Nat} {S : Cells} {w : World} {f g : Nat → List D} {c1 c2 : Nat → Nat → Value}
    (hl : ∀ i, i < n → (f i).length = z ∧ (f i).all D.plain = true) (hr : ∀ i j, i < n → j < z → Rel S w noRho ((f i).getD j .any) (c1 i j))
    (hl2 : ∀ i, i < m → (g i).length = z ∧ (g i).all D.plain = true) (hr2 : ∀ i j, i < m → j < z → Rel S w noRho ((g i).getD j .any) (c2 i j)) :
    (∀ i, i < n + m → (catF n f m g i).length = z ∧ (catF n f m g i).all D.plain = true) ∧
    (∀ i j, i < n + m → j < z → Rel S w noRho ((catF n f m g i).getD j .any) (if i < n then c1 i j else c2 (i - n) j)) := by
  refine ⟨fun i hi => ?_, fun i j hi hj => ?_⟩
  · unfold catF
    by_cases h : i < n
    · rw [if_pos h]; exact hl i h
    · rw [if_neg h, if_pos hi]; exact hl2 (i - n) (by omega)
  · unfold catF
    by_cases h : i < n
    · rw [if_pos h, if_pos h]; exact hr i j h hj
    · rw [if_neg h, if_pos hi, if_neg h]; exact hr2 (i - n) j (by omega) hj

theorem zeroCells_size (z : Array Value) (n : Nat) : (Builtin.zeroCells z n).size = n * z.size := by simp [Builtin.zeroCells]

/-- append, at least one element, to a row of the call's own. -/
theorem append_ok {w : World} {S : Cells} {r : Rho} {t ty el : TypeId} {i : TypeInfo} {zv : Value} {k L : Nat} {z : Nat} {m : Nat} {f g : Nat → List D} {vx vy : Value} (hH : Hist X w S) (hI : Inv X w S r O)
    (ht : P.underlying t = some (.slice el)) (hi : P.info? el = some i) (hz : i.size = z) (hzv : i.zero = some zv) (hzs : zv.cells.size = z) (hz0 : 0 < z)
    (hx : Rel S w r (.sl z L f) vx) (hy : Rel S w r (.sl z m g) vy) (hm : 0 < m) (hmax : L + m ≤ maxLen) (hby : (L + m) * i.bytes ≤ 140737488355328)
    (hk : (O k = none ∧ L = 0 ∧ vx = .slice none 0 0) ∨ (O k = some (.row el z L) ∧ ∀ tv, r k = some (.row tv L) → vx = tv)) :
    ∃ v w', (Builtin.append_ #[t, t] ty #[vx, vy]).run P w = .ok v w' ∧ ∃ S' r', Rel S' w' r' (.gs k z (L + m) (catF L f m g)) v ∧ Hist X w' S' ∧ Inv X w' S' r' (updO O [(k, .row el z (L + m))]) ∧
      (∀ b o, S b o → S' b o) ∧ (∀ b o, S b o → w'.cell? ⟨b, o, none⟩ = w.cell? ⟨b, o, none⟩) ∧ RhoLe r r' := by
  subst hz
  obtain ⟨ay, capy, c2, rfl, _, _, hl2, hr2, hcell2⟩ := sl_cells hy
  obtain ⟨ax, capx, c1, rfl, hcx, hmx, hl1, hr1, hcell1⟩ := sl_cells hx
  obtain ⟨ad, rfl⟩ : ∃ ad, ay = some ad := by
    obtain ⟨b, o, e, _⟩ := hcell2 0 0 hm hz0
    exact ⟨_, e⟩
  have hnl : (flat i.size m c2).length = m * i.size := flat_length ..
  have hnews := flat_cells hcell2
  have hone := flat_oneCell hl2 hr2
  obtain ⟨hcl, hcr⟩ := cat_data hl1 hr1 hl2 hr2
  have hi63 : ((L + m : Nat) : Int) ≤ 9223372036854775807 := by unfold maxLen at hmax; omega
  have newBlock : ∀ (old : Nat) (row : Option Nat), old < L + m → RhoLe r (updR r k (.row (.slice (some ⟨w.heap.size, 0, none⟩) (L + m) (grownCap w (L + m) old el)) (L + m))) →
      ∃ S' r', Rel S' (w.drew.alloc (.cells ((flat i.size L c1).toArray ++ (flat i.size m c2).toArray ++ Builtin.zeroCells zv.cells (grownCap w (L + m) old el - (L + m))) el)) r' (.gs k i.size (L + m) (catF L f m g))
          (.slice (some ⟨w.heap.size, 0, none⟩) (L + m) (grownCap w (L + m) old el)) ∧
        Hist X (w.drew.alloc (.cells ((flat i.size L c1).toArray ++ (flat i.size m c2).toArray ++ Builtin.zeroCells zv.cells (grownCap w (L + m) old el - (L + m))) el)) S' ∧
        Inv X (w.drew.alloc (.cells ((flat i.size L c1).toArray ++ (flat i.size m c2).toArray ++ Builtin.zeroCells zv.cells (grownCap w (L + m) old el - (L + m))) el)) S' r' (updO O [(k, .row el i.size (L + m))]) ∧
        (∀ b o, S b o → S' b o) ∧ (∀ b o, S b o → (w.drew.alloc (.cells ((flat i.size L c1).toArray ++ (flat i.size m c2).toArray ++ Builtin.zeroCells zv.cells (grownCap w (L + m) old el - (L + m))) el)).cell? ⟨b, o, none⟩ = w.cell? ⟨b, o, none⟩) ∧ RhoLe r r' := by
    intro old row hold hle
    have hge := grownCap_ge w (L + m) old el
    have hcm : grownCap w (L + m) old el ≤ maxLen := grownCap_le_maxLen w (L + m) old el hmax
    refine row_ok (g := none) (c := fun i' j => if i' < L then c1 i' j else c2 (i' - L) j) hH hI (Chg.drewAlloc w S hH.valid _ none) (fun b hb => by cases hb)
      (.inl ⟨Nat.le_refl _, by simp, hH.size⟩) hle (heap_alloc_new w.drew _) hge hcm ?_ (fun i' j hi' hj => ?_) (fun o _ hs => ?_) hcl hcr
    · simp only [Array.size_append, List.size_toArray, zeroCells_size, hzs, flat_length, ← Nat.add_mul]
      congr 1
      omega
    · have := cat_at (c1 := c1) (c2 := c2) (Builtin.zeroCells zv.cells (grownCap w (L + m) old el - (L + m))).toList hi' hj
      rw [← this, ← Array.getElem?_toList]
      simp
    · have := hH.valid _ _ hs; omega
  rcases hk with ⟨hk, rfl, hv0⟩ | ⟨hk, htip⟩
  · simp only [Value.slice.injEq] at hv0
    obtain ⟨rfl, _, rfl⟩ := hv0
    have hrun := run_append_nil (P := P) w t ty el i zv ht hi hzv ad m capy (flat i.size m c2) hnl hnews hm (by simpa using hi63) (by have := hby; simp only [Nat.zero_add] at this; omega)
    obtain ⟨S', r', h1, h2, h3, h4, h5, h6⟩ := newBlock 0 none (by omega) (RhoLe.new (hI.dom k hk))
    have e0 : flat i.size 0 c1 = [] := by simp [flat]
    simp only [e0, Nat.zero_add] at h1 h2 h3 h5
    have e1 : ∀ a : Array Value, ([] : List Value).toArray ++ a = a := fun a => by simp
    simp only [e1] at h1 h2 h3 h5
    exact ⟨_, _, hrun, S', r', by simpa using h1, h2, by simpa using h3, h4, h5, h6⟩
  · obtain ⟨tv, htv, hrow⟩ := hI.obj k _ hk
    have := htip tv htv
    subst this
    have hle : ∀ blk cap', RhoLe r (updR r k (.row (.slice (some ⟨blk, 0, none⟩) (L + m) cap') (L + m))) := fun blk cap' => RhoLe.upd htv ⟨by omega, fun e => by omega⟩
    rcases hrow with ⟨hnil, rfl⟩ | ⟨b, cap, cur, htv', hb, hLc, hcm, hsz, hfree⟩
    · simp only [Value.slice.injEq] at hnil
      obtain ⟨rfl, _, rfl⟩ := hnil
      have hrun := run_append_nil (P := P) w t ty el i zv ht hi hzv ad m capy (flat i.size m c2) hnl hnews hm (by simpa using hi63) (by have := hby; simp only [Nat.zero_add] at this; omega)
      obtain ⟨S', r', h1, h2, h3, h4, h5, h6⟩ := newBlock 0 none (by omega) (hle _ _)
      have e0 : flat i.size 0 c1 = [] := by simp [flat]
      simp only [e0, Nat.zero_add] at h1 h2 h3 h5
      have e1 : ∀ a : Array Value, ([] : List Value).toArray ++ a = a := fun a => by simp
      simp only [e1] at h1 h2 h3 h5
      exact ⟨_, _, hrun, S', r', by simpa using h1, h2, by simpa using h3, h4, h5, h6⟩
    · simp only [Value.slice.injEq, Option.some.injEq] at htv'
      obtain ⟨rfl, _, rfl⟩ := htv'
      have hblt : b < w.heap.size := (Array.getElem?_eq_some_iff.1 hb).1
      by_cases hroom : L + m ≤ capx
      · have hfit : L * i.size + (flat i.size m c2).length ≤ cur.size := by
          rw [flat_length, hsz, ← Nat.add_mul]
          exact Nat.mul_le_mul_right _ hroom
        have hrun := run_append_room (P := P) w t ty el i ht hi b L capx cur hb ad m capy (flat i.size m c2) hnl hnews hone hroom hfit
        have hold : ∀ o, S b o → (cur.toList.take (L * i.size) ++ flat i.size m c2 ++ cur.toList.drop (L * i.size + (flat i.size m c2).length)).toArray[o]? = cur[o]? := by
          intro o ho
          have hlt : o < L * i.size := by
            rcases Nat.lt_or_ge o (L * i.size) with h | h
            · exact h
            · exact absurd ho (hfree o h)
          rw [List.getElem?_toArray, List.append_assoc, List.getElem?_append_left (by simp; omega), List.getElem?_take_of_lt hlt, Array.getElem?_toList]
        obtain ⟨S', r', h1, h2, h3, h4, h5, h6⟩ := row_ok (el := el) (z := i.size) (N := L + m) (cap := capx) (f := catF L f m g) (k := k) (c := fun i' j => if i' < L then c1 i' j else c2 (i' - L) j) hH hI (Chg.setRow w S b cur _ el (0, 0) hb hold)
          (fun b' hb' => ⟨_, htv, by cases hb'; rfl⟩) (.inr ⟨_, htv, rfl, by simpa using hblt⟩) (hle _ _) (setRow_heap w b cur _ el (0, 0) hb) hroom hcm
          (by simp only [List.size_toArray, List.length_append, List.length_take, List.length_drop, Array.length_toList]; omega)
          (fun i' j hi' hj => by
            have e : cur.toList.take (L * i.size) = flat i.size L c1 := by
              apply List.ext_getElem?
              intro p
              by_cases hp : p < L * i.size
              · obtain ⟨i2, j2, rfl, h2, h3⟩ := flat_split hp
                rw [List.getElem?_take_of_lt hp, flat_at c1 h2 h3, Array.getElem?_toList]
                obtain ⟨b', o', he, _, hc'⟩ := hcell1 i2 j2 h2 h3
                cases he
                rw [Nat.zero_add, cell_of_row w b _ cur el (0, 0) hb] at hc'
                exact hc'
              · rw [List.getElem?_eq_none (by simp; omega), List.getElem?_eq_none (by rw [flat_length]; omega)]
            rw [List.getElem?_toArray, e]
            exact cat_at _ hi' hj)
          (fun o ho => hfree o (Nat.le_trans (Nat.mul_le_mul_right _ (by omega)) ho)) hcl hcr
        exact ⟨_, _, hrun, S', r', h1, h2, h3, h4, h5, h6⟩
      · have hrun := run_append_grow (P := P) w t ty el i zv ht hi hzv ⟨b, 0, none⟩ L capx (flat i.size L c1) (flat_length ..) (flat_cells hcell1) ad m capy (flat i.size m c2) hnl hnews (by omega) hi63 (grow_fits (by omega) hby)
        obtain ⟨S', r', h1, h2, h3, h4, h5, h6⟩ := newBlock capx none (by omega) (hle _ _)
        exact ⟨_, _, hrun, S', r', h1, h2, h3, h4, h5, h6⟩

end
end Go.Proofs.Ytejpliaomhpakaa.Flow
